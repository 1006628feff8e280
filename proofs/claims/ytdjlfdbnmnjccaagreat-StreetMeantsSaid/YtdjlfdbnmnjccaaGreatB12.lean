/- A part of the proofs of the laws of this seat: the walks of the program's functions, and lemmas. They hold without conditions. -/
import Derived.RangeFuncNested
import Derived.RangeFuncBound
import Derived.RangeFuncCalls
import Derived.RangeFuncLeaves
import Derived.OwnWalkIn
import Derived.TacticsInMore
import Derived.LoopNIn
import Derived.LoopIn
import Derived.Test.YtdjlfdbnmnjccaaGreatB06
import Derived.Test.YtdjlfdbnmnjccaaGreatB09
import Derived.Test.YtdjlfdbnmnjccaaGreatB11
set_option linter.all false
set_option linter.unusedSectionVars false
section
set_option linter.unusedVariables false
set_option linter.unusedSimpArgs false
namespace Go.Proofs.YtdjlfdbnmnjccaaGreat.St
open Go.Sort hiding rd
open Go.RowKit Go.Shelf Go.Proofs.YtdjlfdbnmnjccaaGreatW.PrintWords Go.Proofs.YtdjlfdbnmnjccaaGreatW.PrintLast Go.Proofs.YtdjlfdbnmnjccaaGreatW.PrintMore
def faultsIn (a b : ByteArray) (i : Int) : Nat → Nat → List Int → Int → List Int
  | 0, _, row, _ => row
  | n + 1, k, row, corner =>
    faultsIn a b i n (k + 1) (row.set (k + 1) (min (min (if bt a i = bt b (k : Int) then corner else corner + 1) (rd row (k : Int) + 1)) (rd row ((k + 1 : Nat) : Int) + 1))) (rd row ((k + 1 : Nat) : Int))
def faultsOut (a b : ByteArray) : Nat → Nat → List Int → List Int
  | 0, _, row => row
  | n + 1, i, row => faultsOut a b n (i + 1) (faultsIn a b i b.size 0 (row.set 0 ((i + 1 : Nat) : Int)) (rd row 0))
def rowStart : List Int := [0, 1, 2, 3, 4, 5, 6, 7, 8, 9, 10]
def faultsV (a b : ByteArray) : Int := rd (faultsOut a b a.size 0 rowStart) (b.size : Int)
def RowAt (W : World) (B : Nat) (row : List Int) : Prop := W.heap[B]? = some (.cells (row.map (Value.int .i64)).toArray 180 (0, 0)) ∧ row.length = 11
theorem RowAt.cell {W : World} {B : Nat} {row : List Int} (h : RowAt W B row) (k : Nat) (hk : k < 11) : W.cell? ⟨B, k, none⟩ = some (.int .i64 (rd row k)) ∧ W.frozen? ⟨B, k, none⟩ = false := by
  refine ⟨(blk_cell h.1 k).trans ?_, blk_frozen h.1 k⟩
  unfold rd
  have : k < row.length := by rw [h.2]; exact hk
  simp [List.getElem?_eq_getElem this, List.getD_eq_getElem?_getD]
theorem RowAt.put {W : World} {B : Nat} {row : List Int} (h : RowAt W B row) (k : Nat) (x : Int) : RowAt (W.setCell ⟨B, k, none⟩ (.int .i64 x)) B (row.set k x) := by
  refine ⟨blk_put h.1 k _ ?_, by rw [List.length_set, h.2]⟩
  simp [List.map_set]
theorem RowAt.lt {W : World} {B : Nat} {row : List Int} (h : RowAt W B row) : B < W.heap.size := blk_lt h.1
def InB (row : List Int) (m : Int) : Prop := ∀ x ∈ row, 0 ≤ x ∧ x ≤ m
theorem InB.rd {row : List Int} {m : Int} (h : InB row m) (hm : 0 ≤ m) (i : Int) : 0 ≤ rd row i ∧ rd row i ≤ m := by
  unfold Go.Proofs.YtdjlfdbnmnjccaaGreatW.PrintWords.rd
  rw [List.getD_eq_getElem?_getD]
  cases he : row[i.toNat]? with
  | none => simp; exact hm
  | some x => exact h x (List.mem_of_getElem? he)
theorem InB.set {row : List Int} {m m' : Int} (h : InB row m) (hm : m ≤ m') (k : Nat) (x : Int) (hx : 0 ≤ x ∧ x ≤ m') : InB (row.set k x) m' := by
  intro y hy
  rcases List.mem_or_eq_of_mem_set hy with hy | rfl
  · have := h y hy; omega
  · exact hx
set_option maxHeartbeats 4000000 in
set_option maxRecDepth 100000 in
theorem faults_any (a b : ByteArray) (ha : a.size ≤ 10) (hb : b.size ≤ 10) (w : World) :
    Calls Tryz.prog 83 #[.string a, .string b] w fun e w' => e = .returned (.int .i64 (faultsV a b)) ∧ Below w.heap.size w w' := by
  go_enter Tryz.func83, Tryz.ntmps83
  go_wp2_with fail
  have HB0 := Aside0.mk (below_alloc (Below.refl w.heap.size w) (.cells (List.map (Value.int .i64) [0, 0, 0, 0, 0, 0, 0, 0, 0, 0, 0]).toArray 180))
  have HR0 := Aside0.mk (show RowAt (w.alloc (.cells (List.map (Value.int .i64) [0, 0, 0, 0, 0, 0, 0, 0, 0, 0, 0]).toArray 180)) w.heap.size [0, 0, 0, 0, 0, 0, 0, 0, 0, 0, 0] from ⟨blk_new w _, rfl⟩)
  go_loopg [6, 11] 11 (fun gg _ s11 wr => ∃ kk : Nat, kk ≤ 11 ∧ 11 - kk ≤ gg ∧ s11 = .int .i64 kk ∧ Aside0 (Below w.heap.size w wr) ∧ Aside0 (RowAt wr w.heap.size (rowStart.take kk ++ List.replicate (11 - kk) 0)))
  case atStart => exact ⟨0, Nat.zero_le _, by omega, rfl, HB0, HR0⟩
  case round =>
    clear HB0 HR0
    obtain ⟨kk, hkk, hg, rfl, HB, HR⟩ := hrel
    by_cases hlt : kk < 11
    · have hltz : (kk : Int) < 11 := by omega
      obtain ⟨hc, hf⟩ := HR.out.cell kk hlt
      have hl := HR.out.lt
      go_wp2_with fail
      have HR2 := Aside0.mk (HR.out.put kk (kk : Int))
      have HB2 := Aside0.mk (HB.out.setCell (p := ⟨w.heap.size, kk, none⟩) (Nat.le_refl _) (.int .i64 (kk : Int)))
      go_roundg (11 - (kk + 1))
      case measure => omega
      case rel =>
        refine ⟨kk + 1, by omega, by omega, by go_num, HB2, ⟨?_⟩⟩
        have hrow : (rowStart.take kk ++ List.replicate (11 - kk) 0).set kk (kk : Int) = rowStart.take (kk + 1) ++ List.replicate (11 - (kk + 1)) 0 := by
          have : kk = 0 ∨ kk = 1 ∨ kk = 2 ∨ kk = 3 ∨ kk = 4 ∨ kk = 5 ∨ kk = 6 ∨ kk = 7 ∨ kk = 8 ∨ kk = 9 ∨ kk = 10 := by omega
          rcases this with rfl | rfl | rfl | rfl | rfl | rfl | rfl | rfl | rfl | rfl | rfl <;> rfl
        rw [← hrow]; exact HR2.out
    · obtain rfl : kk = 11 := by omega
      have HRS := Aside0.mk (show RowAt wr w.heap.size rowStart from HR.out)
      clear HR
      have hltz : ¬ ((11 : Nat) : Int) < 11 := by omega
      go_wp2_with fail
      go_loopg [7, 8, 9, 10, 20, 30] a.size (fun gg _ _ _ _ s20 _ wr => ∃ (ii : Nat) (row : List Int), ii ≤ a.size ∧ a.size - ii ≤ gg ∧ s20 = .int .i64 ii ∧ Aside0 (Below w.heap.size w wr) ∧ Aside0 (RowAt wr w.heap.size row) ∧
        Aside0 (InB row (20 + 12 * (ii : Int))) ∧ Aside0 (faultsOut a b (a.size - ii) ii row = faultsOut a b a.size 0 rowStart))
      case atStart => exact ⟨0, rowStart, Nat.zero_le _, by omega, rfl, HB, HRS, ⟨by intro x hx; simp [rowStart] at hx; omega⟩, ⟨rfl⟩⟩
      case round =>
        clear HB HRS
        obtain ⟨ii, row, hii, hg2, rfl, HB, HR, HI, HF⟩ := hrel
        by_cases hlt2 : ii < a.size
        · have hltz2 : (ii : Int) < (a.size : Int) := by omega
          obtain ⟨hc, hf⟩ := HR.out.cell 0 (by omega)
          obtain ⟨hr1, hr2⟩ := HI.out.rd (by omega) 0
          have hl := HR.out.lt
          have e00 : rd row ((0 : Nat) : Int) = rd row 0 := rfl
          rw [e00] at hc
          obtain ⟨x0, hx0⟩ : ∃ x0, rd row 0 = x0 := ⟨_, rfl⟩
          rw [hx0] at hc hr1 hr2
          have HF2 := Aside0.mk (show faultsOut a b (a.size - (ii + 1)) (ii + 1) (faultsIn a b ii b.size 0 (row.set 0 ((ii + 1 : Nat) : Int)) x0) = faultsOut a b a.size 0 rowStart from by
            rw [← HF.out, show a.size - ii = (a.size - (ii + 1)) + 1 by omega, faultsOut, hx0])
          have HR2 := Aside0.mk (show RowAt (wr.setCell ⟨w.heap.size, 0, none⟩ (.int .i64 ((ii : Int) + 1))) w.heap.size (row.set 0 ((ii + 1 : Nat) : Int)) from HR.out.put 0 _)
          have HI2 := Aside0.mk (show InB (row.set 0 ((ii + 1 : Nat) : Int)) (20 + 12 * (ii : Int) + 1) from HI.out.set (by omega) 0 _ (by omega))
          have HB2 := Aside0.mk (HB.out.setCell (p := ⟨w.heap.size, 0, none⟩) (Nat.le_refl _) (.int .i64 ((ii : Int) + 1)))
          clear e00 hx0 HF
          go_wp2_with fail
          clear hc hf HB HR HI
          go_loopg [8, 9, 10, 30] b.size (fun gg s8 _ _ s30 wr => ∃ (k : Nat) (row' : List Int) (corner : Int), k ≤ b.size ∧ b.size - k ≤ gg ∧ s30 = .int .i64 k ∧ s8 = .int .i64 corner ∧ Aside0 (0 ≤ corner ∧ corner ≤ 20 + 12 * (ii : Int) + k) ∧ Aside0 (Below w.heap.size w wr) ∧ Aside0 (RowAt wr w.heap.size row') ∧
            Aside0 (InB row' (20 + 12 * (ii : Int) + 1 + k)) ∧ Aside0 (faultsIn a b ii (b.size - k) k row' corner = faultsIn a b ii b.size 0 (row.set 0 ((ii + 1 : Nat) : Int)) x0))
          case atStart => exact ⟨0, _, x0, Nat.zero_le _, by omega, rfl, rfl, ⟨⟨hr1, by omega⟩⟩, HB2, HR2, ⟨by simpa using HI2.out⟩, ⟨rfl⟩⟩
          case round =>
            clear HB2 HR2 HI2
            obtain ⟨k, row', corner, hk, hg3, rfl, rfl, HC, HB, HR, HI, HF⟩ := hrel
            by_cases hlt3 : k < b.size
            · have hltz3 : (k : Int) < (b.size : Int) := by omega
              obtain ⟨hcr1, hcr2⟩ := HC.out
              obtain ⟨hck, hfk⟩ := HR.out.cell k (by omega)
              obtain ⟨hck1, hfk1⟩ := HR.out.cell (k + 1) (by omega)
              have hl3 := HR.out.lt
              obtain ⟨ha1, ha2⟩ := HI.out.rd (by omega) ((k : Nat) : Int)
              obtain ⟨hb1, hb2⟩ := HI.out.rd (by omega) (((k + 1 : Nat)) : Int)
              obtain ⟨xk, hxk⟩ : ∃ x, rd row' (k : Int) = x := ⟨_, rfl⟩
              obtain ⟨xk1, hxk1⟩ : ∃ x, rd row' ((k + 1 : Nat) : Int) = x := ⟨_, rfl⟩
              have hfs : faultsIn a b ii (b.size - k) k row' corner = faultsIn a b ii (b.size - (k + 1)) (k + 1) (row'.set (k + 1) (min (min (if bt a ii = bt b (k : Int) then corner else corner + 1) (xk + 1)) (xk1 + 1))) xk1 := by
                rw [show b.size - k = (b.size - (k + 1)) + 1 by omega, faultsIn, hxk, hxk1]
              rw [hxk] at hck ha1 ha2
              rw [hxk1] at hck1 hb1 hb2
              have HFS := Aside0.mk (hfs.symm.trans HF.out)
              have hA := bt_at a (ii : Int) (by rw [Int.toNat_natCast]; exact hlt2)
              have hBt := bt_at b (k : Int) (by rw [Int.toNat_natCast]; exact hlt3)
              simp only [Int.toNat_natCast] at hA hBt
              have HAB := Aside0.mk (And.intro hA hBt)
              clear hfs hxk hxk1 HF hA hBt
              go_wp2_with fail
              go_region
              all_goals go_wp2_with fail
              all_goals go_region
              · rename_i hqq
                have hq : bt a (ii : Int) ≠ bt b (k : Int) := by rw [← HAB.out.1, ← HAB.out.2]; simpa using hqq
                obtain ⟨mv, hmv⟩ : ∃ mv : Int, (if xk1 + 1 < (if xk < corner then xk + 1 else corner + 1) then xk1 + 1 else (if xk < corner then xk + 1 else corner + 1)) = mv := ⟨_, rfl⟩
                have hmin : min (min (if bt a ii = bt b (k : Int) then corner else corner + 1) (xk + 1)) (xk1 + 1) = mv := by
                  rw [if_neg hq, ← hmv]
                  simp only [Int.min_def]
                  repeat' split
                  all_goals omega
                have hmb : 0 ≤ mv ∧ mv ≤ 20 + 12 * (ii : Int) + 1 + k + 1 := by
                  rw [← hmv]
                  repeat' split
                  all_goals omega
                rw [hmin] at HFS
                rw [hmv]
                have HR3 := Aside0.mk (show RowAt (wr.setCell ⟨w.heap.size, k + 1, none⟩ (.int .i64 mv)).drew.drew w.heap.size (row'.set (k + 1) mv) from HR.out.put (k + 1) mv)
                have HB3 := Aside0.mk (below_drew (below_drew (HB.out.setCell (p := ⟨w.heap.size, k + 1, none⟩) (Nat.le_refl _) (.int .i64 mv))))
                have HI3 := Aside0.mk (show InB (row'.set (k + 1) mv) (20 + 12 * (ii : Int) + 1 + ((k + 1 : Nat) : Int)) from HI.out.set (by omega) (k + 1) mv (by omega))
                clear hmv hmin hck hfk hck1 hfk1 HR HI HB
                go_wp2_with fail
                go_roundg (b.size - (k + 1))
                case measure => omega
                case rel => exact ⟨k + 1, _, xk1, by omega, by omega, by go_num, rfl, ⟨⟨hb1, by omega⟩⟩, HB3, HR3, HI3, HFS⟩
              · rename_i hqq
                have hq : bt a (ii : Int) = bt b (k : Int) := by rw [← HAB.out.1, ← HAB.out.2]; simpa using hqq
                obtain ⟨mv, hmv⟩ : ∃ mv : Int, (if xk1 + 1 < (if xk + 1 < corner then xk + 1 else corner) then xk1 + 1 else (if xk + 1 < corner then xk + 1 else corner)) = mv := ⟨_, rfl⟩
                have hmin : min (min (if bt a ii = bt b (k : Int) then corner else corner + 1) (xk + 1)) (xk1 + 1) = mv := by
                  rw [if_pos hq, ← hmv]
                  simp only [Int.min_def]
                  repeat' split
                  all_goals omega
                have hmb : 0 ≤ mv ∧ mv ≤ 20 + 12 * (ii : Int) + 1 + k + 1 := by
                  rw [← hmv]
                  repeat' split
                  all_goals omega
                rw [hmin] at HFS
                rw [hmv]
                have HR3 := Aside0.mk (show RowAt (wr.setCell ⟨w.heap.size, k + 1, none⟩ (.int .i64 mv)).drew.drew w.heap.size (row'.set (k + 1) mv) from HR.out.put (k + 1) mv)
                have HB3 := Aside0.mk (below_drew (below_drew (HB.out.setCell (p := ⟨w.heap.size, k + 1, none⟩) (Nat.le_refl _) (.int .i64 mv))))
                have HI3 := Aside0.mk (show InB (row'.set (k + 1) mv) (20 + 12 * (ii : Int) + 1 + ((k + 1 : Nat) : Int)) from HI.out.set (by omega) (k + 1) mv (by omega))
                clear hmv hmin hck hfk hck1 hfk1 HR HI HB
                go_wp2_with fail
                go_roundg (b.size - (k + 1))
                case measure => omega
                case rel => exact ⟨k + 1, _, xk1, by omega, by omega, by go_num, rfl, ⟨⟨hb1, by omega⟩⟩, HB3, HR3, HI3, HFS⟩
            · obtain rfl : k = b.size := by omega
              have hltz3 : ¬ (b.size : Int) < (b.size : Int) := by omega
              have hf3 := HF.out
              rw [Nat.sub_self, faultsIn] at hf3
              rw [← hf3] at HF2
              clear hf3 HF
              go_wp2_with fail
              go_roundg (a.size - (ii + 1))
              case measure => omega
              case rel => exact ⟨ii + 1, _, by omega, by omega, by go_num, HB, HR, ⟨fun x hx => by have := HI.out x hx; omega⟩, HF2⟩
        · obtain rfl : ii = a.size := by omega
          have hltz2 : ¬ (a.size : Int) < (a.size : Int) := by omega
          have hf2 := HF.out
          rw [Nat.sub_self, faultsOut] at hf2
          obtain ⟨hc, hf⟩ := HR.out.cell b.size (by omega)
          have hl := HR.out.lt
          have HV := Aside0.mk (show faultsV a b = rd row (b.size : Int) from by unfold faultsV; rw [← hf2])
          obtain ⟨v, hv⟩ : ∃ v, rd row (b.size : Int) = v := ⟨_, rfl⟩
          rw [hv] at hc HV
          clear hf2 HF hv
          go_wp2_with fail
          go_ret
          exact ⟨ret_int HV.out.symm, HB.out⟩
end Go.Proofs.YtdjlfdbnmnjccaaGreat.St
end
section
set_option linter.unusedVariables false
set_option linter.unusedSimpArgs false
namespace Go.Proofs.YtdjlfdbnmnjccaaGreat.St
open Go.Sort hiding rd
open Go.RowKit Go.Shelf Go.Proofs.YtdjlfdbnmnjccaaGreatW.PrintWords Go.Proofs.YtdjlfdbnmnjccaaGreatW.PrintLast Go.Proofs.YtdjlfdbnmnjccaaGreatW.PrintMore
def nearTo (word : ByteArray) (ns : List ByteArray) : Nat → List Int × Int
  | 0 => ([], 11)
  | k + 1 =>
    if faultsV word (ns.getD k ByteArray.empty) < (nearTo word ns k).2 then ([(k : Int)], faultsV word (ns.getD k ByteArray.empty))
    else if faultsV word (ns.getD k ByteArray.empty) = (nearTo word ns k).2 then ((nearTo word ns k).1 ++ [(k : Int)], (nearTo word ns k).2)
    else nearTo word ns k
theorem nearTo_succ (word : ByteArray) (ns : List ByteArray) (k : Nat) : nearTo word ns (k + 1) =
    if faultsV word (ns.getD k ByteArray.empty) < (nearTo word ns k).2 then ([(k : Int)], faultsV word (ns.getD k ByteArray.empty))
    else if faultsV word (ns.getD k ByteArray.empty) = (nearTo word ns k).2 then ((nearTo word ns k).1 ++ [(k : Int)], (nearTo word ns k).2)
    else nearTo word ns k := rfl
theorem nearTo_len (word : ByteArray) (ns : List ByteArray) (k : Nat) : (nearTo word ns k).1.length ≤ k := by
  induction k with
  | zero => simp [nearTo]
  | succ k ih =>
    rw [nearTo_succ]
    split
    · simp
    · split
      · simp; exact ih
      · omega
def nearR (first : List ByteArray) (changes : List S60) (name : ByteArray) (hour : Int) : List Int × Int × Int :=
  if openE first changes ≠ 0 then ([], 0, openE first changes)
  else if isNameB name = false then ([], 0, 4)
  else if isHourB hour = false then ([], 0, 3)
  else ((nearTo name (namesAt (pagesOf first changes) hour) (namesAt (pagesOf first changes) hour).length).1, (nearTo name (namesAt (pagesOf first changes) hour) (namesAt (pagesOf first changes) hour).length).2, 0)
set_option maxHeartbeats 4000000 in
set_option maxRecDepth 100000 in
theorem near_any (A0 : Option Addr) (c0 : Nat) (first : List ByteArray) (A1 : Option Addr) (c1 : Nat) (changes : List S60) (name : ByteArray) (hour : Int) (w : World)
    (hr0 : Kd.C Kd.string w A0 first.length first) (hc0 : first.length ≤ c0) (hr1 : Kd.C k60 w A1 changes.length changes) (hc1 : changes.length ≤ c1) :
    Calls Tryz.prog 39 #[.agg #[.slice A0 first.length c0, .slice A1 changes.length c1], .string name, .int .i64 hour] w fun e w' =>
      ∃ v0 : Value, e = .returned (.tuple #[v0, .int .i64 (nearR first changes name hour).2.1, .int .i64 (nearR first changes name hour).2.2]) ∧ Kd.R (Kd.int .i64) 3 w' w.heap.size (fun _ => True) v0 (nearR first changes name hour).1 ∧ Below w.heap.size w w' := by
  have HOP := Aside0.mk (fun (W : World) (hb : Below w.heap.size w W) => open_any A0 c0 first A1 c1 changes W (Kd.C_below hr0 hb) hc0 (Kd.C_below hr1 hb) hc1)
  clear hr0 hr1
  go_enter Tryz.func39, Tryz.ntmps39
  go_wp2_with fail
  obtain ⟨W1, hW1⟩ : ∃ W1, w.alloc (.cells #[.slice A0 first.length c0, .slice A1 changes.length c1] 25) = W1 := ⟨_, rfl⟩
  have hb1 : Below w.heap.size w W1 := by rw [← hW1]; exact below_alloc (Below.refl _ _) _
  rw [hW1]
  clear hW1
  refine (HOP.out W1 hb1).mono ?_
  rintro e w2 ⟨B0, n0, d0, B1, n1, d1, Bp, np, dp, rfl, hop, hb⟩
  obtain ⟨oe, hoe⟩ : ∃ oe, openE first changes = oe := ⟨_, rfl⟩
  rw [hoe]
  have HB2 := Aside0.mk (below_from hb1 hb)
  have HS := Aside0.mk hb1.size
  clear hb hb1 HOP
  by_cases h0 : oe = 0
  · subst h0
    obtain ⟨e0, e1, hp⟩ := hop hoe
    rw [e0, e1]
    clear e0 e1 hop
    have HP2 := Aside0.mk (Kd.R_lower hp HS.out)
    have HOE := Aside0.mk hoe
    obtain ⟨hf1, hf2, _⟩ := check_ok (open_zero hoe).1
    clear hp hoe HS
    obtain ⟨Aq, cq, hsl⟩ := Kd.R_slice HP2.out
    cases hsl
    obtain ⟨W3, hW3⟩ : ∃ W3, w2.alloc (.cells #[.slice A0 first.length c0, .slice A1 changes.length c1, .slice Bp (bookOf first changes).1.length dp] 124) = W3 := ⟨_, rfl⟩
    have HB3 := Aside0.mk (show Below w.heap.size w W3 from by rw [← hW3]; exact below_alloc HB2.out _)
    have BB3 := Aside0.mk (show W3.heap[w2.heap.size]? = some (.cells #[.slice A0 first.length c0, .slice A1 changes.length c1, .slice Bp (bookOf first changes).1.length dp] 124 (0, 0)) from by rw [← hW3]; exact blk_new w2 _)
    have HP3 := Aside0.mk (show Kd.R k167 167 W3 w.heap.size (fun _ => True) (.slice Bp (bookOf first changes).1.length dp) (bookOf first changes).1 from by rw [← hW3]; exact Kd.R_alloc HP2.out _)
    clear HB2 HP2
    go_wp2_with fail
    clear hW3
    refine (street_isName.calls name _ W3 rfl).mono ?_
    rintro e w4 ⟨rfl, hb⟩
    have HB4 := Aside0.mk (below_from HB3.out hb)
    have BB4 := Aside0.mk (blk_below BB3.out hb)
    have HP4 := Aside0.mk (Kd.R_below HP3.out hb)
    clear HB3 BB3 HP3 hb
    obtain ⟨b1, hb1⟩ : ∃ b, isNameB name = b := ⟨_, rfl⟩
    rw [hb1]
    cases b1 with
    | false =>
      have HN := Aside0.mk (show nearR first changes name hour = ([], 0, 4) from by unfold nearR; rw [if_neg (by rw [HOE.out]; simp), if_pos hb1])
      clear hb1
      go_wp2_with fail
      rw [HN.out]
      refine bodyPost_ret (v := .tuple #[.slice none 0 0, .int .i64 0, .int .i64 4]) (by simp [results, Tryz.results39, go_sem]) rfl ?_
      exact ⟨_, rfl, Kd.R_nil _ _ _ _ _, HB4.out⟩
    | true =>
      go_wp2_with fail
      refine (street_isHour.calls hour _ w4 (isHour_f hour)).mono ?_
      rintro e w5 ⟨rfl, hb⟩
      have HB5 := Aside0.mk (below_from HB4.out hb)
      have BB5 := Aside0.mk (blk_below BB4.out hb)
      have HP5 := Aside0.mk (Kd.R_below HP4.out hb)
      clear HB4 BB4 HP4 hb
      obtain ⟨b2, hb2⟩ : ∃ b, isHourB hour = b := ⟨_, rfl⟩
      rw [hb2]
      cases b2 with
      | false =>
        have HN := Aside0.mk (show nearR first changes name hour = ([], 0, 3) from by unfold nearR; rw [if_neg (by rw [HOE.out]; simp), if_neg (by rw [hb1]; simp), if_pos hb2])
        clear hb1 hb2
        go_wp2_with fail
        rw [HN.out]
        refine bodyPost_ret (v := .tuple #[.slice none 0 0, .int .i64 0, .int .i64 3]) (by simp [results, Tryz.results39, go_sem]) rfl ?_
        exact ⟨_, rfl, Kd.R_nil _ _ _ _ _, HB5.out⟩
      | true =>
        have hwr : nearR first changes name hour = ((nearTo name (namesAt (pagesOf first changes) hour) (namesAt (pagesOf first changes) hour).length).1, (nearTo name (namesAt (pagesOf first changes) hour) (namesAt (pagesOf first changes) hour).length).2, 0) := by unfold nearR; rw [if_neg (by rw [HOE.out]; simp), if_neg (by rw [hb1]; simp), if_neg (by rw [hb2]; simp)]
        have hh : 0 ≤ hour := by unfold isHourB at hb2; simp at hb2; exact hb2.1
        have HNA := Aside0.mk (names_any (.slice A0 first.length c0) (.slice A1 changes.length c1) Bp dp first.length (pagesOf first changes) hour w5 (Kd.R_reads' HP5.out).2.2 (pages_ok HOE.out) hh)
        have hnl := namesAt_len (pages_ok HOE.out) hh
        have HNS := Aside0.mk (show (namesAt (pagesOf first changes) hour).length ≤ 6 from by omega)
        have HSZ := Aside0.mk (show ∀ s ∈ namesAt (pagesOf first changes) hour, s.size ≤ 10 from by
          obtain ⟨p, hp, e⟩ := namesAt_mem (pages_ok HOE.out) hh
          rw [e]; exact (pages_ok HOE.out).sz p hp)
        have HWZ := Aside0.mk (name_size hb1)
        clear hnl
        obtain ⟨NA, hNA⟩ : ∃ NA, namesAt (pagesOf first changes) hour = NA := ⟨_, rfl⟩
        rw [hNA] at hwr HNA HNS HSZ
        obtain ⟨⟨z0, z1, z2⟩, _, zl⟩ := blk3 BB5.out
        clear hb1 hb2 hNA
        have HWR := Aside0.mk hwr
        clear hwr
        go_wp2_with fail
        refine HNA.out.mono ?_
        rintro e w6 ⟨An, cn, rfl, hln, hcn, hb⟩
        have HB6 := Aside0.mk (below_from HB5.out hb)
        have HCN := Aside0.mk hcn
        have hns := HNS.out
        clear hln hcn hb z0 z1 z2 zl HNA HP5 BB5
        go_wp2_with fail
        go_loopg [6, 7, 10, 11, 12, 34] NA.length (fun gg s6 s7 _ _ _ s34 wr => ∃ kk : Nat, kk ≤ NA.length ∧ NA.length - kk ≤ gg ∧ s34 = .int .i64 kk ∧ s7 = .int .i64 (nearTo name NA kk).2 ∧ Aside0 (Below w6.heap.size w6 wr) ∧ Aside0 (Kd.R (Kd.int .i64) 3 wr w6.heap.size (fun _ => True) s6 (nearTo name NA kk).1))
        case atStart => exact ⟨0, Nat.zero_le _, by omega, rfl, rfl, ⟨Below.refl _ _⟩, ⟨Kd.R_nil _ _ _ _ _⟩⟩
        case round =>
          obtain ⟨kk, hkk, hg, rfl, rfl, HB, H6⟩ := hrel
          by_cases hlt : kk < NA.length
          · have hltz : (kk : Int) < (NA.length : Int) := by omega
            obtain ⟨ad, rfl, hc⟩ := Kd.at_string HCN.out (kk : Int) (by omega) (by omega)
            rw [Int.toNat_natCast] at hc
            have hc' := (HB.out.cell (World.block_lt_of_cell? w6 _ hc)).trans hc
            have hyg : rdOf ByteArray.empty NA (kk : Int) = NA.getD kk ByteArray.empty := by unfold rdOf; simp
            have hym : NA.getD kk ByteArray.empty ∈ NA := by rw [List.getD_eq_getElem?_getD, List.getElem?_eq_getElem hlt, Option.getD_some]; exact List.getElem_mem hlt
            obtain ⟨y, hy⟩ : ∃ y, NA.getD kk ByteArray.empty = y := ⟨_, rfl⟩
            rw [hyg, hy] at hc'
            rw [hy] at hym
            have HFA := Aside0.mk (faults_any name y HWZ.out (HSZ.out y hym) wr)
            have hsu := nearTo_succ name NA kk
            rw [hy] at hsu
            have hL6 := nearTo_len name NA kk
            have HL6 := Aside0.mk (show (nearTo name NA kk).1.length ≤ 100 from by omega)
            obtain ⟨nv, hnv⟩ : ∃ nv, faultsV name y = nv := ⟨_, rfl⟩
            rw [hnv] at HFA hsu
            obtain ⟨nt, hnt⟩ : ∃ nt, nearTo name NA kk = nt := ⟨_, rfl⟩
            rw [hnt] at H6 HL6 hsu ⊢
            obtain ⟨st, ls⟩ := nt
            dsimp only at H6 HL6 hsu
            have HSU := Aside0.mk hsu
            clear hc hyg hy hym hsu hL6 hnv hnt
            dsimp only
            go_wp2_with fail
            refine HFA.out.mono ?_
            rintro e w7 ⟨rfl, hb⟩
            have HB7 := Aside0.mk (HB.out.trans (hb.mono HB.out.size))
            have H67 := Aside0.mk (Kd.R_below H6.out hb)
            clear hb HFA HB H6 hc'
            by_cases hlt2 : nv < ls
            · rw [if_pos hlt2] at HSU
              go_wp2_with (at_builtin; refine Kd.R_append (Kd.int .i64) (w0 := w6) (W := w7) w6.heap.size ?b1 (.tmp 51) (.tmp 53) 31 3 (.int .i64 0) 8 ?b2 Tryz.underlying31 info3 rfl (by decide) (by omega) (.slice none 0 0) [] (kk : Int) [.int .i64 (kk : Int)] (fun _ => True) (fun _ => False) ?b3 ?b4 ?aP (fun _ hk => hk.elim) ?aF ?aO ?aB ?aS ?aL ?_; (case b1 => rfl); (case b2 => rfl); (case b3 => rfl); (case b4 => rfl); (case aP => exact rfl); (case aB => exact HB7.out); (case aF => exact (fun _ _ => trivial)); (case aO => exact Kd.R_nil _ _ _ _ _); (case aS => exact HB7.out.size); (case aL => simp); intro v8 w8 ho hb hgr hat; have m0_ := Aside0.mk hb; have m1_ := Aside0.mk ho; clear ho hb hgr hat)
              go_roundg (NA.length - (kk + 1))
              case measure => omega
              case rel => exact ⟨kk + 1, by omega, by omega, by go_num, by rw [HSU.out], m0_, ⟨by rw [HSU.out]; exact m1_.out⟩⟩
            · rw [if_neg hlt2] at HSU
              by_cases heq2 : nv = ls
              · rw [if_pos heq2] at HSU
                subst heq2
                go_wp2_with (at_builtin; refine Kd.R_append (Kd.int .i64) (w0 := w6) (W := w7) w6.heap.size ?b1 (.tmp 51) (.tmp 53) 31 3 (.int .i64 0) 8 ?b2 Tryz.underlying31 info3 rfl (by decide) (by omega) u6 st (kk : Int) [.int .i64 (kk : Int)] (fun _ => True) (fun _ => False) ?b3 ?b4 ?aP (fun _ hk => hk.elim) ?aF ?aO ?aB ?aS ?aL ?_; (case b1 => rfl); (case b2 => rfl); (case b3 => rfl); (case b4 => rfl); (case aP => exact rfl); (case aB => exact HB7.out); (case aF => exact (fun _ _ => trivial)); (case aO => exact H67.out); (case aS => exact HB7.out.size); (case aL => have := HL6.out; omega); intro v8 w8 ho hb hgr hat; have m0_ := Aside0.mk hb; have m1_ := Aside0.mk ho; clear ho hb hgr hat)
                go_roundg (NA.length - (kk + 1))
                case measure => omega
                case rel => exact ⟨kk + 1, by omega, by omega, by go_num, by rw [HSU.out], m0_, ⟨by rw [HSU.out]; exact m1_.out⟩⟩
              · rw [if_neg heq2] at HSU
                have heqb : (nv == ls) = false := beq_eq_false_iff_ne.2 heq2
                go_wp2_with fail
                go_roundg (NA.length - (kk + 1))
                case measure => omega
                case rel => exact ⟨kk + 1, by omega, by omega, by go_num, by rw [HSU.out], HB7, ⟨by rw [HSU.out]; exact H67.out⟩⟩
          · obtain rfl : kk = NA.length := by omega
            have hltz : ¬ (NA.length : Int) < (NA.length : Int) := by omega
            have HBF := Aside0.mk (HB6.out.trans (HB.out.mono HB6.out.size))
            have HRF := Aside0.mk (Kd.R_lower H6.out HB6.out.size)
            clear HB H6 HB6
            go_wp2_with fail
            rw [HWR.out]
            refine bodyPost_ret (v := .tuple #[u6, .int .i64 (nearTo name NA NA.length).2, .int .i64 0]) (by simp [results, Tryz.results39, go_sem]) rfl ?_
            exact ⟨_, rfl, HRF.out, HBF.out⟩
  · have h0' : (oe != 0) = true := by simp [h0]
    have HN := Aside0.mk (show nearR first changes name hour = ([], 0, oe) from by unfold nearR; rw [if_pos (by rw [hoe]; exact h0), hoe])
    clear h0 hop hoe
    go_wp2_with fail
    rw [HN.out]
    refine bodyPost_ret (v := .tuple #[.slice none 0 0, .int .i64 0, .int .i64 oe]) (by simp [results, Tryz.results39, go_sem]) rfl ?_
    exact ⟨_, rfl, Kd.R_nil _ _ _ _ _, below_alloc HB2.out _⟩
def street_Nearest.f (l0_0 : List ByteArray) (l0_1 : List S60) (a1 : ByteArray) (a2 : Int) : Option (List Int × Int × Int) := some (nearR l0_0 l0_1 a1 a2)
theorem street_Nearest.calls (A0_0 : Option Addr) (c0_0 : Nat) (l0_0 : List ByteArray) (A0_1 : Option Addr) (c0_1 : Nat) (l0_1 : List S60) (a1 : ByteArray) (a2 : Int) (r_0 : List Int) (r_1 r_2 : Int) (w : World) (hr0_0 : Kd.C Kd.string w A0_0 l0_0.length l0_0) (hc0_0 : l0_0.length ≤ c0_0) (hr0_1 : Kd.C k60 w A0_1 l0_1.length l0_1) (hc0_1 : l0_1.length ≤ c0_1) (h : street_Nearest.f l0_0 l0_1 a1 a2 = some (r_0, r_1, r_2)) :
    Calls Tryz.prog 39 #[.agg #[.slice A0_0 l0_0.length c0_0, .slice A0_1 l0_1.length c0_1], .string a1, .int .i64 a2] w fun e w' => ∃ v0_ : Value, e = .returned (.tuple #[v0_, .int .i64 r_1, .int .i64 r_2]) ∧ Kd.R (Kd.int .i64) 3 w' w.heap.size (fun _ => True) v0_ r_0 ∧ Below w.heap.size w w' := by
  have e := Option.some.inj h
  have h0 : (nearR l0_0 l0_1 a1 a2).1 = r_0 := by rw [e]
  have h1 : (nearR l0_0 l0_1 a1 a2).2.1 = r_1 := by rw [e]
  have h2 : (nearR l0_0 l0_1 a1 a2).2.2 = r_2 := by rw [e]
  have := near_any A0_0 c0_0 l0_0 A0_1 c0_1 l0_1 a1 a2 w hr0_0 hc0_0 hr0_1 hc0_1
  rwa [h0, h1, h2] at this
end Go.Proofs.YtdjlfdbnmnjccaaGreat.St
end
section
set_option linter.unusedVariables false
set_option linter.unusedSimpArgs false
namespace Go.Proofs.YtdjlfdbnmnjccaaGreat.St
open Go.Sort hiding rd
open Go.RowKit Go.Shelf Go.Proofs.YtdjlfdbnmnjccaaGreatW.PrintWords Go.Proofs.YtdjlfdbnmnjccaaGreatW.PrintLast Go.Proofs.YtdjlfdbnmnjccaaGreatW.PrintMore
structure KeepT (T : Nat → Prop) (W W' : World) : Prop where
  size : W.heap.size ≤ W'.heap.size
  same : ∀ (k : Nat) (cs : Array Value) (t : Nat) (fr : Nat × Nat), T t → W.heap[k]? = some (.cells cs t fr) → W'.heap[k]? = some (.cells cs t fr)
theorem KeepT.refl (T : Nat → Prop) (W : World) : KeepT T W W := ⟨Nat.le_refl _, fun _ _ _ _ _ h => h⟩
theorem KeepT.trans {T : Nat → Prop} {A B C : World} (h : KeepT T A B) (k : KeepT T B C) : KeepT T A C := ⟨Nat.le_trans h.size k.size, fun i cs t fr ht hi => k.same i cs t fr ht (h.same i cs t fr ht hi)⟩
theorem KeepT.alloc {T : Nat → Prop} {A B : World} (h : KeepT T A B) (o : Obj) : KeepT T A (B.alloc o) :=
  ⟨by simp; have := h.size; omega, fun i cs t fr ht hi => by
    have h1 := h.same i cs t fr ht hi
    rw [Below.heap_alloc B o _ (Array.getElem?_eq_some_iff.1 h1).1]; exact h1⟩
theorem KeepT.put {T : Nat → Prop} {A B : World} (h : KeepT T A B) (l : Nat) (o o' : Obj) (hl : B.heap[l]? = some o) (ho : o.isCells = false) : KeepT T A (B.putObj l o') :=
  ⟨by have := h.size; simpa [World.putObj] using this, fun i cs t fr ht hi => by
    have h1 := h.same i cs t fr ht hi
    rw [World.putObj_heap_other (fun e => by subst e; rw [hl] at h1; cases h1; cases ho)]; exact h1⟩
def SeqB (F : Fence) (n : Nat) (P : Program) (g : Nat) (bv : Value) (enc : Nat → Array Value) (T : Nat → Prop) (N : Nat) (w : World) : Prop :=
  ∀ (l : Nat) (J : Nat → World → Prop) (W : World), KeepT T w W → (∀ k W1 o, J k W1 → J k (W1.alloc o)) →
    (∀ k W1, k < N → J k W1 → YieldAt F (n - 1) P l (enc k) W1 fun e W' => e = .returned (.bool true) ∧ J (k + 1) W' ∧ KeepT T W1 W') →
    J 0 W → CallsIn F n P g #[bv, .func (.yield l) #[] #[]] W fun e W' => (∃ v, e = .returned v) ∧ J N W'
def bodyPostB (B : Nat) (T : Nat → Prop) (I : Nat → World → Prop) (k : Nat) (W : World) : Exit → Act → World → Prop
  | .normal, _, W' => KeepsFrom B W W' ∧ KeepT T W W' ∧ I (k + 1) W'
  | _, _, _ => False
theorem rangeBound {F : Fence} {n : Nat} {P : Program} {g : Operand} {ps : Array Tmp} {assign body : Code} {Q : Exit → Act → World → Prop} {a : Act} {w : World}
    (hro : F.round = none) (h1 : 1 ≤ n) {gf : Nat} {bv : Value} (hg : a.eval g = .func (.func gf) #[bv] #[]) (hFg : F.fn gf) (eg : ∀ args w, (callFunc gf args).run P w = .ok (.enter gf args) w)
    {enc : Nat → Array Value} {T : Nat → Prop} {N : Nat} {w0 : World} (hseq : SeqB F (n - 1) P gf bv enc T N w0) (hw0 : KeepT T w0 w) (hps : ∀ k, (enc k).size = ps.size)
    (I : Nat → World → Prop) (hIa : ∀ k W o, I k W → I k (W.alloc o)) (hIp : ∀ k W l o o', w.heap.size ≤ l → W.heap[l]? = some o → o.isCells = false → I k W → I k (W.putObj l o')) (h0 : I 0 w)
    (Ax : Nat → Act → World → Prop) (hAx : ∀ k a' W l o o', w.heap.size ≤ l → W.heap[l]? = some o → o.isCells = false → Ax k a' W → Ax k a' (W.putObj l o'))
    (hassign : ∀ (l k : Nat) (W : World) (K : Act → World → Prop), I k W → k < N → (∀ a' W', KeepsFrom w.heap.size W W' → KeepT T W W' → I k W' → Ax k a' W' → K a' W') →
      assign.wpIn (F.inRound l) (n - 1 - 1) P (Exit.then K (fun _ _ _ => False)) { tmps := (ps.zip (enc k)).foldl (fun t (p, v) => t.setIfInBounds p v) a.tmps, defers := [] } W)
    (hbody : ∀ (l k : Nat) (a' : Act) (W : World), w.heap.size ≤ l → (∃ r, W.heap[l]? = some (.loop r)) → I k W → Ax k a' W → k < N → body.wpIn (F.inRound l) (n - 1 - 1) P (bodyPostB w.heap.size T I k W) a' W)
    (hdone : ∀ (D : Nat) (W : World), w.heap.size ≤ D → I N W → W.heap[D]? = some (.deferred (some [])) → Q .normal { a with defers := { target := .collected D, args := #[] } :: a.defers } W) :
    (Code.rangeFunc g ps assign body).wpIn F n P Q a w := by
  refine wpIn_rangeFunc fun fn hfn => ?_
  rw [hro]
  obtain ⟨rec, hrec⟩ : ∃ rec : LoopState → Loop, rec = fun st => { state := st, pending := none, fn, tmps := a.tmps, params := ps, assign, body, defers := w.heap.size } := ⟨_, rfl⟩
  obtain ⟨V, hV⟩ : ∃ V, (w.alloc (.deferred (some []))).alloc (.loop (rec .ready)) = V := ⟨_, rfl⟩
  have hrecV : V.heap[w.heap.size + 1]? = some (.loop (rec .ready)) := by
    rw [← hV]
    have := World.alloc_heap_new (w.alloc (.deferred (some []))) (.loop (rec .ready))
    rwa [World.size_alloc] at this
  have hdefV : V.heap[w.heap.size]? = some (.deferred (some [])) := by
    rw [← hV]
    rw [Below.heap_alloc _ _ _ (by simp)]
    exact World.alloc_heap_new w _
  have hIV : I 0 V := by rw [← hV]; exact hIa _ _ _ (hIa _ _ _ h0)
  have hKV : KeepT T w0 V := by rw [← hV]; exact (hw0.alloc _).alloc _
  obtain ⟨J, hJ⟩ : ∃ J : Nat → World → Prop, J = fun k W => I k W ∧ W.heap[w.heap.size + 1]? = some (.loop (rec .ready)) ∧ W.heap[w.heap.size]? = some (.deferred (some [])) := ⟨_, rfl⟩
  have hJa : ∀ k W1 o, J k W1 → J k (W1.alloc o) := by
    rw [hJ]
    rintro k W1 o ⟨a1, a2, a3⟩
    exact ⟨hIa _ _ _ a1, by rw [Below.heap_alloc _ _ _ (Array.getElem?_eq_some_iff.1 a2).1]; exact a2, by rw [Below.heap_alloc _ _ _ (Array.getElem?_eq_some_iff.1 a3).1]; exact a3⟩
  refine ⟨w.heap.size + 1, [{ target := .collected w.heap.size, args := #[] }], V, { target := .fn (.func gf) #[], args := #[bv, .func (.yield (w.heap.size + 1)) #[] #[]] }, V, gf,
    #[bv, .func (.yield (w.heap.size + 1)) #[] #[]], V, ?_, ?_, ?_, ?_, fun _ => h1, ?_⟩
  · rw [← hV, hrec]; exact run_enterLoop_outer _ _ _ _ _
  · simp only [resolve, hg]
    simp [go_sem]
  · intro f' hf'
    simp [Target.leads] at hf'
    subst hf'
    exact hFg
  · simp [invoke, go_sem, eg]
  · refine (hseq (w.heap.size + 1) J V hKV hJa ?_ (by rw [hJ]; exact ⟨hIV, hrecV, hdefV⟩)).mono ?_
    ·
      intro k W1 hk hJ1
      rw [hJ] at hJ1
      obtain ⟨a1, a2, a3⟩ := hJ1
      have hy := run_yield (P := P) (args := enc k) a2 (by rw [hrec]; exact hps k)
      rw [hrec] at hy
      refine ⟨fn, _, assign, body, hy, roundIn_of_wpIn hfn (hassign _ k W1 _ a1 hk ?_)⟩
      intro a' W2 hkf hkt b1 bx
      have b2 := hkf.same _ _ (by omega) a2 rfl
      have b3 := hkf.same _ _ (Nat.le_refl _) a3 rfl
      have hlt2 := (Array.getElem?_eq_some_iff.1 b2).1
      refine ⟨_, run_beginRound b2 (by rw [hrec]), ?_⟩
      obtain ⟨busy, hbusy⟩ : ∃ r : Loop, { rec .ready with state := .busy } = r := ⟨_, rfl⟩
      rw [hbusy]
      have c2 : (W2.putObj (w.heap.size + 1) (.loop busy)).heap[w.heap.size + 1]? = some (.loop busy) := World.putObj_heap_same hlt2
      have c3 : (W2.putObj (w.heap.size + 1) (.loop busy)).heap[w.heap.size]? = some (.deferred (some [])) := (World.putObj_heap_other (by omega)).trans b3
      refine wpIn_mono (hbody _ k a' _ (by omega) ⟨_, c2⟩ (hIp _ _ _ _ _ (by omega) b2 rfl b1) (hAx _ _ _ _ _ _ (by omega) b2 rfl bx) hk) ?_
      rintro e a3' W3 hp
      cases e with
      | normal =>
        obtain ⟨k1, k2, k3⟩ := hp
        have d2 := k1.same _ _ (by omega) c2 rfl
        have d3 := k1.same _ _ (Nat.le_refl _) c3 rfl
        have hend := run_endRound (P := P) none d2
        have hback : ({ busy with state := if (none : Option Code).isNone then .ready else .done, pending := none } : Loop) = rec .ready := by rw [← hbusy, hrec]; rfl
        rw [hback] at hend
        refine ⟨_, _, hend, rfl, ?_, ?_⟩
        · rw [hJ]
          exact ⟨hIp _ _ _ _ _ (by omega) d2 rfl k3, World.putObj_heap_same (Array.getElem?_eq_some_iff.1 d2).1, (World.putObj_heap_other (by omega)).trans d3⟩
        · exact (hkt.trans (((KeepT.refl T W2).put _ _ _ b2 rfl).trans k2)).put _ _ _ d2 rfl
      | ret => exact hp.elim
      | exit id => exact hp.elim
      | goto t => exact hp.elim
      | panic ch => exact hp.elim
      | outgrown => exact hp.elim
    ·
      rintro e W2 ⟨⟨v, rfl⟩, hJN⟩
      rw [hJ] at hJN
      obtain ⟨a1, a2, a3⟩ := hJN
      have hend := run_endLoop (P := P) a2 (by rw [hrec]; simp)
      have hpend : (rec .ready).pending = none := by rw [hrec]
      rw [hpend] at hend
      exact ⟨none, _, hend, hdone _ _ (Nat.le_refl _) (hIp _ _ _ _ _ (by omega) a2 rfl a1) ((World.putObj_heap_other (by omega)).trans a3)⟩
end Go.Proofs.YtdjlfdbnmnjccaaGreat.St
end
section
set_option linter.unusedVariables false
set_option linter.unusedSimpArgs false
namespace Go.Proofs.YtdjlfdbnmnjccaaGreat.St
open Go.Sort hiding rd
open Go.RowKit Go.Shelf Go.Proofs.YtdjlfdbnmnjccaaGreatW.PrintWords Go.Proofs.YtdjlfdbnmnjccaaGreatW.PrintLast Go.Proofs.YtdjlfdbnmnjccaaGreatW.PrintMore
attribute [local go_sem] Oper.semAt_some
def hiOf (ps : List S167) (k : Nat) : Int := if k + 1 < ps.length then (rd_T167 ps ((k + 1 : Nat) : Int)).f0 - 1 else 1000
def encP (ps : List S167) (vals : Nat → Value) (k : Nat) : Array Value := #[.agg #[.int .i64 (rd_T167 ps k).f0, .int .i64 (hiOf ps k)], vals k]
theorem alloc_set2 (W : World) (a b v : Value) (t : Nat) : (W.alloc (.cells #[a, b] t)).setCell ⟨W.heap.size, 1, none⟩ v = W.alloc (.cells #[a, v] t) := by
  have h1 : ((W.alloc (.cells #[a, b] t)).setCell ⟨W.heap.size, 1, none⟩ v).heap = (W.alloc (.cells #[a, v] t)).heap := by
    apply Array.ext_getElem?
    intro i
    rcases Nat.lt_trichotomy i W.heap.size with h | h | h
    · rw [show ((W.alloc (.cells #[a, b] t)).setCell ⟨W.heap.size, 1, none⟩ v).heap[i]? = (W.alloc (.cells #[a, b] t)).heap[i]? from by simp [World.setCell, Array.getElem?_modify]; omega]
      rw [Below.heap_alloc _ _ _ h, Below.heap_alloc _ _ _ h]
    · subst h
      rw [blk_put (blk_new W (.cells #[a, b] t)) 1 v rfl]
      exact (blk_new W _).symm
    · rw [Array.getElem?_eq_none (by simp [World.setCell]; omega), Array.getElem?_eq_none (by simp; omega)]
  exact congrArg (fun h => ({ W with heap := h } : World)) h1
structure PagesAt (w : World) (g : Nat) (ps : List S167) (vals : Nat → Value) : Prop where
  blk : ∃ cur, w.heap[g]? = some (.cells cur 167 (0, 0))
  c0 : ∀ k : Nat, k < ps.length → w.cell? ⟨g, k * 2, none⟩ = some (.int .i64 (rd_T167 ps k).f0)
  c1 : ∀ k : Nat, k < ps.length → w.cell? ⟨g, k * 2 + 1, none⟩ = some (vals k)
  sl : ∀ k : Nat, k < ps.length → ∃ A n c, vals k = .slice A n c
theorem PagesAt.keep {T : Nat → Prop} {w W : World} {g : Nat} {ps : List S167} {vals : Nat → Value} (h : PagesAt w g ps vals) (hT : T 167) (hk : KeepT T w W) : PagesAt W g ps vals := by
  obtain ⟨cur, hc⟩ := h.blk
  have hc' := hk.same g cur _ _ hT hc
  have hcell : ∀ o, W.cell? ⟨g, o, none⟩ = w.cell? ⟨g, o, none⟩ := fun o => (blk_cell hc' o).trans (blk_cell hc o).symm
  exact ⟨⟨cur, hc'⟩, fun k hk2 => (hcell _).trans (h.c0 k hk2), fun k hk2 => (hcell _).trans (h.c1 k hk2), h.sl⟩
set_option maxRecDepth 100000 in
set_option maxHeartbeats 4000000 in
theorem times_seq (F : Fence) (n : Nat) (hF : F.fn 73) (hro : F.round = none) (hn : 1 ≤ n) (x0 x1 : Value) (g c m : Nat) (ps : List S167) (hps : PagesOk m ps) (vals : Nat → Value) (T : Nat → Prop) (hT1 : T 167) (hT2 : T 124) (w : World)
    (hp : PagesAt w g ps vals) : SeqB F n Tryz.prog 73 (.agg #[x0, x1, .slice (some ⟨g, 0, none⟩) ps.length c]) (encP ps vals) T ps.length w := by
  intro l J W hK hJa hY h0
  have hsm := hps.small
  have hpW := hp.keep hT1 hK
  clear hp hK
  refine callsIn_of_wp Tryz.func73 rfl hF ?_ hro
  simp only [Tryz.ntmps73, List.size_toArray, List.length_cons, List.length_nil, Nat.reduceAdd, Nat.reduceSub, Array.replicate_succ, Array.replicate_zero, List.push_toArray, List.append_toArray, List.nil_append, List.cons_append]
  gi_wp2
  gi_loopw [4, 5, 6, 10] (fun _ _ _ i wr => ∃ k : Nat, k ≤ ps.length ∧ i = .int .i64 k ∧ Aside0 (J k wr) ∧ Aside0 (PagesAt wr g ps vals) ∧ Aside0 (wr.heap[W.heap.size]? = some (.cells #[x0, x1, .slice (some ⟨g, 0, none⟩) ps.length c] 124 (0, 0))))
    (fun _ _ _ i _ => ps.length - (intOf i).toNat)
  case atStart => exact ⟨0, Nat.zero_le _, rfl, ⟨hJa _ _ _ h0⟩, ⟨hpW.keep hT1 ((KeepT.refl T W).alloc _)⟩, ⟨blk_new W _⟩⟩
  case round =>
    obtain ⟨k, hk, rfl, HJ, HP, HB⟩ := hrel
    obtain ⟨⟨b0, b1, b2⟩, _, bl⟩ := blk3 HB.out
    by_cases hlt : k < ps.length
    · have hltz : (k : Int) < (ps.length : Int) := by omega
      have hc0 := HP.out.c0 k hlt
      have hc1 := HP.out.c1 k hlt
      have hgl : g < wr.heap.size := World.block_lt_of_cell? wr _ hc0
      obtain ⟨A, n1, c1, hv⟩ := HP.out.sl k hlt
      obtain ⟨y, hy⟩ : ∃ y, (rd_T167 ps (k : Int)).f0 = y := ⟨_, rfl⟩
      rw [hy] at hc0
      rw [hv] at hc1
      by_cases hlast : k + 1 < ps.length
      · have hlastz : (k : Int) + 1 < (ps.length : Int) := by omega
        have hd0 := HP.out.c0 (k + 1) hlast
        obtain ⟨z, hz⟩ : ∃ z, (rd_T167 ps ((k + 1 : Nat) : Int)).f0 = z := ⟨_, rfl⟩
        have hzb := hps.le _ (rd_page_mem (k + 1) hlast)
        rw [hz] at hd0 hzb
        obtain ⟨hz0, hz1⟩ := hzb
        have he : encP ps vals k = #[.agg #[.int .i64 y, .int .i64 (z - 1)], .slice A n1 c1] := by unfold encP hiOf; rw [hy, hv, if_pos hlast, hz]
        obtain ⟨V, hV⟩ : ∃ V, V = (wr.alloc (.cells #[.int .i64 y, .slice A n1 c1] 167)).alloc (.cells #[.int .i64 y, .int .i64 (z - 1)] 75) := ⟨_, rfl⟩
        have hVV : V = (wr.alloc (.cells #[.int .i64 y, .slice A n1 c1] 167)).alloc (.cells #[.int .i64 y, .int .i64 (z - 1)] 75) := by rw [hV]
        have hKV : KeepT T wr V := by rw [hVV]; exact ((KeepT.refl T wr).alloc _).alloc _
        obtain ⟨fn, tmps, assign, body, hyl, hR⟩ := hY k V hlt (by rw [hVV]; exact hJa _ _ _ (hJa _ _ _ HJ.out))
        rw [he] at hyl
        have HKV := Aside0.mk hKV
        rw [hV] at hyl
        clear hY hJa hVV hKV hy hv he
        gi_wp2
        rw [← hV]
        refine hR.mono ?_
        rintro e W3 ⟨rfl, hJ3, hk3⟩
        have HJ3 := Aside0.mk hJ3
        have HK3 := Aside0.mk (HKV.out.trans hk3)
        clear hJ3 hk3
        gi_wp2
        go_roundw
        case rel => exact ⟨k + 1, by omega, by simp, HJ3, ⟨HP.out.keep hT1 HK3.out⟩, ⟨HK3.out.same _ _ _ _ hT2 HB.out⟩⟩
        case measure => simp [intOf]; omega
      · have hlastz : ¬ (k : Int) + 1 < (ps.length : Int) := by omega
        have he : encP ps vals k = #[.agg #[.int .i64 y, .int .i64 1000], .slice A n1 c1] := by unfold encP hiOf; rw [hy, hv, if_neg hlast]
        obtain ⟨V, hV⟩ : ∃ V, V = (wr.alloc (.cells #[.int .i64 y, .slice A n1 c1] 167)).alloc (.cells #[.int .i64 y, .int .i64 1000] 75) := ⟨_, rfl⟩
        have hVV : V = (wr.alloc (.cells #[.int .i64 y, .slice A n1 c1] 167)).alloc (.cells #[.int .i64 y, .int .i64 1000] 75) := by rw [hV]
        have hKV : KeepT T wr V := by rw [hVV]; exact ((KeepT.refl T wr).alloc _).alloc _
        obtain ⟨fn, tmps, assign, body, hyl, hR⟩ := hY k V hlt (by rw [hVV]; exact hJa _ _ _ (hJa _ _ _ HJ.out))
        rw [he] at hyl
        have HKV := Aside0.mk hKV
        rw [hV] at hyl
        clear hY hJa hVV hKV hy hv he
        gi_wp2
        rw [← hV]
        refine hR.mono ?_
        rintro e W3 ⟨rfl, hJ3, hk3⟩
        have HJ3 := Aside0.mk hJ3
        have HK3 := Aside0.mk (HKV.out.trans hk3)
        clear hJ3 hk3
        gi_wp2
        go_roundw
        case rel => exact ⟨k + 1, by omega, by simp, HJ3, ⟨HP.out.keep hT1 HK3.out⟩, ⟨HK3.out.same _ _ _ _ hT2 HB.out⟩⟩
        case measure => simp [intOf]; omega
    · have hltz : ¬ (k : Int) < (ps.length : Int) := by omega
      obtain rfl : k = ps.length := by omega
      gi_wp2
      go_end0
      exact ⟨⟨_, rfl⟩, HJ.out⟩
end Go.Proofs.YtdjlfdbnmnjccaaGreat.St
end
