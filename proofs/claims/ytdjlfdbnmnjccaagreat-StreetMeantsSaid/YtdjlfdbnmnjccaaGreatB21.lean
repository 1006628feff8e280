/- A part of the proofs of the laws of this seat: the walks of the program's functions, and lemmas. They hold without conditions. -/
import Derived.Test.YtdjlfdbnmnjccaaGreatB03
import Derived.Test.YtdjlfdbnmnjccaaGreatB09
import Derived.Test.YtdjlfdbnmnjccaaGreatB10
import Derived.Test.YtdjlfdbnmnjccaaGreatB11
import Derived.Test.YtdjlfdbnmnjccaaGreatB12
import Derived.Test.YtdjlfdbnmnjccaaGreatB14
import Derived.Test.YtdjlfdbnmnjccaaGreatB16
import Derived.Test.YtdjlfdbnmnjccaaGreatB19
import Derived.Test.YtdjlfdbnmnjccaaGreatB20
set_option linter.all false
set_option linter.unusedSectionVars false
section
namespace Go.Proofs.YtdjlfdbnmnjccaaGreat.St
open Go.RowKit Go.Proofs.YtdjlfdbnmnjccaaGreatW.PrintWords Go.Proofs.YtdjlfdbnmnjccaaGreatW.PrintLast Go.Proofs.YtdjlfdbnmnjccaaGreatW.PrintMore
attribute [local go_sem] max2_int min2_int max_two min_two max_three min_three max_four min_four
set_option linter.unusedVariables false
set_option linter.unusedSimpArgs false
def smaltolaw08_town.f (l0 : List (S60)) : Option (List ByteArray × (List (S60))) := (smaltolaw08_change.f 100 2 (⟨#[113, 117, 101, 101, 110]⟩ : ByteArray)).bind fun bt304 => ((smaltolaw08_change.f 200 0 (⟨#[107, 105, 110, 103]⟩ : ByteArray)).bind fun bt307 => ((smaltolaw08_change.f 300 2 (⟨#[109, 105, 108, 108]⟩ : ByteArray)).bind fun bt310 => ((some (([(⟨bt304.1, bt304.2.1, bt304.2.2⟩ : S60), (⟨bt307.1, bt307.2.1, bt307.2.2⟩ : S60), (⟨bt310.1, bt310.2.1, bt310.2.2⟩ : S60)] : List (S60)) : List (S60))).bind fun y313 => (if y313.length + l0.length < 4398046511104 then (some ((([(⟨#[109, 105, 108, 108]⟩ : ByteArray), (⟨#[99, 104, 117, 114, 99, 104]⟩ : ByteArray), (⟨#[107, 105, 110, 103]⟩ : ByteArray)] : List ByteArray)), (y313 ++ l0))) else (none)))))
set_option maxHeartbeats 8000000 in
set_option maxRecDepth 100000 in
theorem smaltolaw08_town.calls (A0 : Option Addr) (c0 : Nat) (l0 : List (S60)) (r1 : List ByteArray) (r2 : List (S60)) (w : World) (hr0 : Kd.C k60 w A0 l0.length l0) (hc0 : l0.length ≤ c0) (h : smaltolaw08_town.f l0 = some (r1, r2)) :
    Calls Tryz.prog 55 #[.slice A0 l0.length c0] w fun e w' => ∃ v0_ v1_ : Value, e = .returned (.agg #[v0_, v1_]) ∧ Kd.R Kd.string 9 w' w.heap.size (fun _ => True) v0_ r1 ∧ Kd.R k60 60 w' w.heap.size (fun _ => True) v1_ r2 ∧ Below w.heap.size w w' := by
  have hu25 := Tryz.underlying25
  have HR0 := Aside0.mk hr0
  have HC0 := Aside0.mk hc0
  clear hr0 hc0
  have HB := Aside0.mk (Below.refl w.heap.size w)
  have H : ((smaltolaw08_change.f 100 2 (⟨#[113, 117, 101, 101, 110]⟩ : ByteArray)).bind fun bt304 => ((smaltolaw08_change.f 200 0 (⟨#[107, 105, 110, 103]⟩ : ByteArray)).bind fun bt307 => ((smaltolaw08_change.f 300 2 (⟨#[109, 105, 108, 108]⟩ : ByteArray)).bind fun bt310 => ((some (([(⟨bt304.1, bt304.2.1, bt304.2.2⟩ : S60), (⟨bt307.1, bt307.2.1, bt307.2.2⟩ : S60), (⟨bt310.1, bt310.2.1, bt310.2.2⟩ : S60)] : List (S60)) : List (S60))).bind fun y313 => (if y313.length + l0.length < 4398046511104 then (some ((([(⟨#[109, 105, 108, 108]⟩ : ByteArray), (⟨#[99, 104, 117, 114, 99, 104]⟩ : ByteArray), (⟨#[107, 105, 110, 103]⟩ : ByteArray)] : List ByteArray)), (y313 ++ l0))) else (none)))))) = some (r1, r2) := h
  clear h
  obtain ⟨y301, hy301⟩ : ∃ y_ : List ByteArray, y_ = (([(⟨#[109, 105, 108, 108]⟩ : ByteArray), (⟨#[99, 104, 117, 114, 99, 104]⟩ : ByteArray), (⟨#[107, 105, 110, 103]⟩ : ByteArray)] : List ByteArray)) := ⟨_, rfl⟩
  replace H : ((smaltolaw08_change.f 100 2 (⟨#[113, 117, 101, 101, 110]⟩ : ByteArray)).bind fun bt304 => ((smaltolaw08_change.f 200 0 (⟨#[107, 105, 110, 103]⟩ : ByteArray)).bind fun bt307 => ((smaltolaw08_change.f 300 2 (⟨#[109, 105, 108, 108]⟩ : ByteArray)).bind fun bt310 => ((some (([(⟨bt304.1, bt304.2.1, bt304.2.2⟩ : S60), (⟨bt307.1, bt307.2.1, bt307.2.2⟩ : S60), (⟨bt310.1, bt310.2.1, bt310.2.2⟩ : S60)] : List (S60)) : List (S60))).bind fun y313 => (if y313.length + l0.length < 4398046511104 then (some (y301, (y313 ++ l0))) else (none)))))) = some (r1, r2) := by first | (rw [hy301]; with_reducible exact H) | (have H2_ := (Option.bind_some _ _).symm.trans H; rw [hy301]; with_reducible exact H2_) | (have H2_ := (Option.bind_some _ _).symm.trans H; with_reducible exact H2_) | with_reducible exact H | (rw [hy301]; exact H) | exact H
  have Ny301 := Aside0.mk hy301
  clear hy301
  replace H := Option.bind_eq_some_iff.mp H
  obtain ⟨⟨t304, t305, t306⟩, A20, H⟩ := H
  replace H : ((smaltolaw08_change.f 200 0 (⟨#[107, 105, 110, 103]⟩ : ByteArray)).bind fun bt307 => ((smaltolaw08_change.f 300 2 (⟨#[109, 105, 108, 108]⟩ : ByteArray)).bind fun bt310 => ((some (([(⟨t304, t305, t306⟩ : S60), (⟨bt307.1, bt307.2.1, bt307.2.2⟩ : S60), (⟨bt310.1, bt310.2.1, bt310.2.2⟩ : S60)] : List (S60)) : List (S60))).bind fun y313 => (if y313.length + l0.length < 4398046511104 then (some (y301, (y313 ++ l0))) else (none))))) = some (r1, r2) := H
  have A2 := Aside0.mk A20
  clear A20
  replace H := Option.bind_eq_some_iff.mp H
  obtain ⟨⟨t307, t308, t309⟩, A30, H⟩ := H
  replace H : ((smaltolaw08_change.f 300 2 (⟨#[109, 105, 108, 108]⟩ : ByteArray)).bind fun bt310 => ((some (([(⟨t304, t305, t306⟩ : S60), (⟨t307, t308, t309⟩ : S60), (⟨bt310.1, bt310.2.1, bt310.2.2⟩ : S60)] : List (S60)) : List (S60))).bind fun y313 => (if y313.length + l0.length < 4398046511104 then (some (y301, (y313 ++ l0))) else (none)))) = some (r1, r2) := H
  have A3 := Aside0.mk A30
  clear A30
  replace H := Option.bind_eq_some_iff.mp H
  obtain ⟨⟨t310, t311, t312⟩, A40, H⟩ := H
  replace H : ((some (([(⟨t304, t305, t306⟩ : S60), (⟨t307, t308, t309⟩ : S60), (⟨t310, t311, t312⟩ : S60)] : List (S60)) : List (S60))).bind fun y313 => (if y313.length + l0.length < 4398046511104 then (some (y301, (y313 ++ l0))) else (none))) = some (r1, r2) := H
  have A4 := Aside0.mk A40
  clear A40
  obtain ⟨y313, hy313⟩ : ∃ y_ : List (S60), y_ = (([(⟨t304, t305, t306⟩ : S60), (⟨t307, t308, t309⟩ : S60), (⟨t310, t311, t312⟩ : S60)] : List (S60))) := ⟨_, rfl⟩
  replace H : (if y313.length + l0.length < 4398046511104 then (some (y301, (y313 ++ l0))) else (none)) = some (r1, r2) := by first | (rw [hy313]; with_reducible exact H) | (have H2_ := (Option.bind_some _ _).symm.trans H; rw [hy313]; with_reducible exact H2_) | (have H2_ := (Option.bind_some _ _).symm.trans H; with_reducible exact H2_) | with_reducible exact H | (rw [hy313]; exact H) | exact H
  have Ny313 := Aside0.mk hy313
  clear hy313
  by_cases c5 : y313.length + l0.length < 4398046511104
  · rw [if_pos c5] at H
    have LMc5 := Aside0.mk c5
    clear c5
    obtain ⟨y316, hy316⟩ : ∃ y_ : List (S60), y_ = (y313 ++ l0) := ⟨_, rfl⟩
    replace H : (some (y301, y316)) = some (r1, r2) := by first | (rw [hy316]; with_reducible exact H) | (have H2_ := (Option.bind_some _ _).symm.trans H; rw [hy316]; with_reducible exact H2_) | (have H2_ := (Option.bind_some _ _).symm.trans H; with_reducible exact H2_) | with_reducible exact H | (rw [hy316]; exact H) | exact H
    have Ny316 := Aside0.mk hy316
    clear hy316
    simp only [Option.some.injEq, Prod.mk.injEq] at H
    obtain ⟨rfl, rfl⟩ := H
    go_enter Tryz.func55, Tryz.ntmps55
    go_wp2_with (first | ((with_reducible refine gate_dst (N := 2) rfl ?_); refine box_event ?hg (N := 2) ?hd (cs := #[.slice none 0 0, .slice none 0 0]) (t := 25) ?hr ?_; (case hd => rfl); (case hg => rfl); (case hr => first | (go_simp; done) | (go_simp; rfl)); intro gb300 hg w6 hbox hb; have n0_ := Aside0.mk (below_step (by repeat (first | (with_reducible first | exact HB.out | apply below_alloc | apply pw_below_drewN | apply below_drew1) | exact HB.out)) hb); have n1_ := Aside0.mk (hbox); have n2_ := Aside0.mk ((by rw [hg]; exact (below_size (by repeat (first | (with_reducible first | exact HB.out | apply below_alloc | apply pw_below_drewN | apply below_drew1) | exact HB.out))) : w.heap.size ≤ gb300)); have n3_ := Aside0.mk ((by rw [hg]; exact (below_size (by repeat (first | (with_reducible first | exact HB.out | apply below_alloc | apply pw_below_drewN | apply below_drew1) | exact HB.out))) : w.heap.size ≤ gb300)); clear HB; have HB := n0_; have BK300 := n1_; have GW300 := n2_; have GE300 := n3_; clear n0_ n1_ n2_ n3_; clear hb hbox hg) | ((with_reducible refine gate_dst (N := 3) rfl ?_); refine Kd.R_lit Kd.string _ 9 ?hg (N := 3) ?hd (xs := ([(⟨#[109, 105, 108, 108]⟩ : ByteArray), (⟨#[99, 104, 117, 114, 99, 104]⟩ : ByteArray), (⟨#[107, 105, 110, 103]⟩ : ByteArray)] : List ByteArray)) (inner := [.string (⟨#[109, 105, 108, 108]⟩ : ByteArray), .string (⟨#[99, 104, 117, 114, 99, 104]⟩ : ByteArray), .string (⟨#[107, 105, 110, 103]⟩ : ByteArray)]) (ok := fun _ => True) (okp := fun _ => True) ?hr ?hp (fun _ hk => hk) trivial (Below.refl _ _) (Nat.le_refl _) (by simp) ?_; (case hd => rfl); (case hg => rfl); (case hr => first | (go_simp; done) | (go_simp; rfl)); (case hp => exact (Reps.one (show Kd.M Kd.string _ _ _ (⟨#[109, 105, 108, 108]⟩ : ByteArray) [.string (⟨#[109, 105, 108, 108]⟩ : ByteArray)] from rfl) (Reps.one (show Kd.M Kd.string _ _ _ (⟨#[99, 104, 117, 114, 99, 104]⟩ : ByteArray) [.string (⟨#[99, 104, 117, 114, 99, 104]⟩ : ByteArray)] from rfl) (Reps.one (show Kd.M Kd.string _ _ _ (⟨#[107, 105, 110, 103]⟩ : ByteArray) [.string (⟨#[107, 105, 110, 103]⟩ : ByteArray)] from rfl) (Reps.none _ _))))); intro v302 w7 ho8 hb hg_ hnew_; clear hg_ hnew_; (first | rw [← Ny301.out] at ho8 | (simp only [Int.reduceToNat] at ho8; rw [← Ny301.out] at ho8)); have n0_ := Aside0.mk (Kd.R_lower ho8 (below_size (by repeat (first | (with_reducible first | exact HB.out | apply below_alloc | apply pw_below_drewN | apply below_drew1 | refine below_set ?_ GE300.out) | exact HB.out)))); have n1_ := Aside0.mk (blk_below (g := gb300) (o := .cells #[.slice none 0 0, .slice none 0 0] 25 (0, 0)) (by (with_reducible repeat (first | refine blk_drewN ?_ _ | refine blk_drew ?_ | refine blk_alloc ?_ _)); exact BK300.out) hb); have n2_ := Aside0.mk (below_step (by repeat (first | (with_reducible first | exact HB.out | apply below_alloc | apply pw_below_drewN | apply below_drew1 | refine below_set ?_ GE300.out) | exact HB.out)) hb); clear BK300; clear HB; have HO303 := n0_; have BK300 := n1_; have HB := n2_; clear n0_ n1_ n2_; clear hb ho8) | ((with_reducible refine gate_callee (f := 56) rfl ?_); refine goesL_ (some 4) rfl rfl Tryz.func56 (by kernel_rfl) rfl #[.int .i64 100, .int .i64 2, .string (⟨#[113, 117, 101, 101, 110]⟩ : ByteArray)] rfl (by (try simp only [List.map_toArray, List.map_cons, List.map_nil]); first | done | rfl | (simp only [List.length_drop, List.length_take]; rfl)) ?_; (with_reducible refine (smaltolaw08_change.calls 100 2 (⟨#[113, 117, 101, 101, 110]⟩ : ByteArray) t304 t305 t306 _ A2.out).mono ?_); rintro e w9 ⟨rfl, hb⟩; refine ⟨_, rfl, ?_⟩; have n0_ := Aside0.mk (Kd.R_below (by (with_reducible repeat (first | apply Kd.R_alloc | apply Kd.R_drewN | apply Kd.R_drew)); exact HO303.out) hb); have n1_ := Aside0.mk (blk_below (g := gb300) (o := .cells #[.slice none 0 0, .slice none 0 0] 25 (0, 0)) (by (with_reducible repeat (first | refine blk_drewN ?_ _ | refine blk_drew ?_ | refine blk_alloc ?_ _)); exact BK300.out) hb); have n2_ := Aside0.mk (below_step (by repeat (first | (with_reducible first | exact HB.out | apply below_alloc | apply pw_below_drewN | apply below_drew1 | refine below_set ?_ GE300.out) | exact HB.out)) hb); clear HO303; clear BK300; clear HB; have HO303 := n0_; have BK300 := n1_; have HB := n2_; clear n0_ n1_ n2_; (try clear hb); (try clear hb2); (try clear hk); (try clear hi)) | ((with_reducible refine gate_callee (f := 56) rfl ?_); refine goesL_ (some 5) rfl rfl Tryz.func56 (by kernel_rfl) rfl #[.int .i64 200, .int .i64 0, .string (⟨#[107, 105, 110, 103]⟩ : ByteArray)] rfl (by (try simp only [List.map_toArray, List.map_cons, List.map_nil]); first | done | rfl | (simp only [List.length_drop, List.length_take]; rfl)) ?_; (with_reducible refine (smaltolaw08_change.calls 200 0 (⟨#[107, 105, 110, 103]⟩ : ByteArray) t307 t308 t309 _ A3.out).mono ?_); rintro e w10 ⟨rfl, hb⟩; refine ⟨_, rfl, ?_⟩; have n0_ := Aside0.mk (Kd.R_below (by (with_reducible repeat (first | apply Kd.R_alloc | apply Kd.R_drewN | apply Kd.R_drew)); exact HO303.out) hb); have n1_ := Aside0.mk (blk_below (g := gb300) (o := .cells #[.slice none 0 0, .slice none 0 0] 25 (0, 0)) (by (with_reducible repeat (first | refine blk_drewN ?_ _ | refine blk_drew ?_ | refine blk_alloc ?_ _)); exact BK300.out) hb); have n2_ := Aside0.mk (below_step (by repeat (first | (with_reducible first | exact HB.out | apply below_alloc | apply pw_below_drewN | apply below_drew1 | refine below_set ?_ GE300.out) | exact HB.out)) hb); clear HO303; clear BK300; clear HB; have HO303 := n0_; have BK300 := n1_; have HB := n2_; clear n0_ n1_ n2_; (try clear hb); (try clear hb2); (try clear hk); (try clear hi)) | ((with_reducible refine gate_callee (f := 56) rfl ?_); refine goesL_ (some 6) rfl rfl Tryz.func56 (by kernel_rfl) rfl #[.int .i64 300, .int .i64 2, .string (⟨#[109, 105, 108, 108]⟩ : ByteArray)] rfl (by (try simp only [List.map_toArray, List.map_cons, List.map_nil]); first | done | rfl | (simp only [List.length_drop, List.length_take]; rfl)) ?_; (with_reducible refine (smaltolaw08_change.calls 300 2 (⟨#[109, 105, 108, 108]⟩ : ByteArray) t310 t311 t312 _ A4.out).mono ?_); rintro e w11 ⟨rfl, hb⟩; refine ⟨_, rfl, ?_⟩; have n0_ := Aside0.mk (Kd.R_below (by (with_reducible repeat (first | apply Kd.R_alloc | apply Kd.R_drewN | apply Kd.R_drew)); exact HO303.out) hb); have n1_ := Aside0.mk (blk_below (g := gb300) (o := .cells #[.slice none 0 0, .slice none 0 0] 25 (0, 0)) (by (with_reducible repeat (first | refine blk_drewN ?_ _ | refine blk_drew ?_ | refine blk_alloc ?_ _)); exact BK300.out) hb); have n2_ := Aside0.mk (below_step (by repeat (first | (with_reducible first | exact HB.out | apply below_alloc | apply pw_below_drewN | apply below_drew1 | refine below_set ?_ GE300.out) | exact HB.out)) hb); clear HO303; clear BK300; clear HB; have HO303 := n0_; have BK300 := n1_; have HB := n2_; clear n0_ n1_ n2_; (try clear hb); (try clear hb2); (try clear hk); (try clear hi)) | ((with_reducible refine gate_dst (N := 7) rfl ?_); refine Kd.R_lit k60 _ 60 ?hg (N := 7) ?hd (xs := ([(⟨t304, t305, t306⟩ : S60), (⟨t307, t308, t309⟩ : S60), (⟨t310, t311, t312⟩ : S60)] : List (S60))) (inner := [.int .i64 t304, .int .i64 t305, .string t306, .int .i64 t307, .int .i64 t308, .string t309, .int .i64 t310, .int .i64 t311, .string t312]) (ok := fun _ => True) (okp := fun _ => True) ?hr ?hp (fun _ hk => hk) trivial (Below.refl _ _) (Nat.le_refl _) (by simp) ?_; (case hd => rfl); (case hg => rfl); (case hr => first | (go_simp; done) | (go_simp; rfl)); (case hp => exact (Reps.c3 (show Kd.M k60 _ _ _ (⟨t304, t305, t306⟩ : S60) [.int .i64 t304, .int .i64 t305, .string t306] from (k60_mkM _ _ _ (⟨t304, t305, t306⟩ : S60) )) (Reps.c3 (show Kd.M k60 _ _ _ (⟨t307, t308, t309⟩ : S60) [.int .i64 t307, .int .i64 t308, .string t309] from (k60_mkM _ _ _ (⟨t307, t308, t309⟩ : S60) )) (Reps.c3 (show Kd.M k60 _ _ _ (⟨t310, t311, t312⟩ : S60) [.int .i64 t310, .int .i64 t311, .string t312] from (k60_mkM _ _ _ (⟨t310, t311, t312⟩ : S60) )) (Reps.none _ _))))); intro v314 w12 ho13 hb hg_ hnew_; clear hg_ hnew_; (first | rw [← Ny313.out] at ho13 | (simp only [Int.reduceToNat] at ho13; rw [← Ny313.out] at ho13)); have n0_ := Aside0.mk (Kd.R_below (by (with_reducible repeat (first | apply Kd.R_alloc | apply Kd.R_drewN | apply Kd.R_drew)); exact HO303.out) hb); have n1_ := Aside0.mk (Kd.R_lower ho13 (below_size (by repeat (first | (with_reducible first | exact HB.out | apply below_alloc | apply pw_below_drewN | apply below_drew1 | refine below_set ?_ GE300.out) | exact HB.out)))); have n2_ := Aside0.mk (blk_below (g := gb300) (o := .cells #[.slice none 0 0, .slice none 0 0] 25 (0, 0)) (by (with_reducible repeat (first | refine blk_drewN ?_ _ | refine blk_drew ?_ | refine blk_alloc ?_ _)); exact BK300.out) hb); have n3_ := Aside0.mk (below_step (by repeat (first | (with_reducible first | exact HB.out | apply below_alloc | apply pw_below_drewN | apply below_drew1 | refine below_set ?_ GE300.out) | exact HB.out)) hb); clear HO303; clear BK300; clear HB; have HO303 := n0_; have HO315 := n1_; have BK300 := n2_; have HB := n3_; clear n0_ n1_ n2_ n3_; clear hb ho13) | ((with_reducible refine gate_builtin (b := .append) (xs := #[.tmp 7, .tmp 8]) rfl ?_); at_builtin; refine Kd.R_append_rows k60 (w0 := w) w.heap.size rfl (.tmp 7) (.tmp 8) 23 60 (.agg #[(.int .i64 0), (.int .i64 0), (.string ⟨#[]⟩)]) 32 rfl Tryz.underlying23 info60 rfl (by decide) (by omega) v314 y313 l0 _ _ _ (fun _ => True) (fun _ => False) rfl rfl ?aO ?aR (fun _ _ h => h) (fun _ h => h.elim) ?aF ?aB ?aS ?aL ?_; (case aR => repeat (first | exact (Kd.C_below HR0.out HB.out) | (with_reducible refine Kd.C_alloc ?_ _) | (with_reducible refine Kd.C_drewN ?_ _) | (with_reducible refine Kd.C_drew ?_))); (case aB => exact (by repeat (first | (with_reducible first | exact HB.out | apply below_alloc | apply pw_below_drewN | apply below_drew1 | refine below_set ?_ GE300.out) | exact HB.out))); (case aF => exact (fun _ _ => trivial)); (case aO => exact (by (with_reducible repeat (first | apply Kd.R_alloc | apply Kd.R_drewN | apply Kd.R_drew)); exact HO315.out)); (case aS => exact (below_size (by repeat (first | (with_reducible first | exact HB.out | apply below_alloc | apply pw_below_drewN | apply below_drew1 | refine below_set ?_ GE300.out) | exact HB.out)))); (case aL => have := LMc5.out; omega); intro v317 w14 ho hb hg hat; rw [← Ny316.out] at ho; have n0_ := Aside0.mk (blk_grown (g := gb300) (o := .cells #[.slice none 0 0, .slice none 0 0] 25 (0, 0)) (by (with_reducible repeat (first | refine blk_drewN ?_ _ | refine blk_drew ?_ | refine blk_alloc ?_ _)); exact BK300.out) hg (Kd.R_ne HO315.out BK300.out (by decide))); have n1_ := Aside0.mk (Kd.R_over' (by (with_reducible repeat (first | apply Kd.R_alloc | apply Kd.R_drewN | apply Kd.R_drew)); exact HO303.out) (Kd.R_typed (by (with_reducible repeat (first | apply Kd.R_alloc | apply Kd.R_drewN | apply Kd.R_drew)); exact HO315.out)) (by decide) hg); have n2_ := Aside0.mk (hb); have n3_ := Aside0.mk (ho); clear BK300; clear HO303; clear HB; clear HO315; have BK300 := n0_; have HO303 := n1_; have HB := n2_; have HO318 := n3_; clear n0_ n1_ n2_ n3_; clear ho hb hg hat; obtain ⟨Ao15, co15, eo15⟩ := Kd.R_slice HO318.out; subst eo15; obtain ⟨Ao16, co16, eo16⟩ := Kd.R_slice HO303.out; subst eo16; have hcz17_0 : w14.cell? ⟨gb300, 0, none⟩ = some (.slice none 0 0) := (blk_cell BK300.out 0).trans rfl; have hcz17_1 : w14.cell? ⟨gb300, 1, none⟩ = some (.slice none 0 0) := (blk_cell BK300.out 1).trans rfl; have hfz17_0 := blk_frozen BK300.out 0; have hfz17_1 := blk_frozen BK300.out 1))
    refine bodyPost_ret (results_cell_row rfl _ _ gb300 25 #[.slice Ao16 y301.length co16, .slice Ao15 y316.length co15] (0, 0) _ rfl (by (with_reducible repeat (first | refine blk_drewN ?_ _ | refine blk_drew ?_ | refine blk_alloc ?_ _)); refine blk_put (cs := #[.slice Ao16 y301.length co16, .slice none 0 0]) ?_ 1 _ rfl; (with_reducible repeat (first | refine blk_drewN ?_ _ | refine blk_drew ?_ | refine blk_alloc ?_ _)); refine blk_put (cs := #[.slice none 0 0, .slice none 0 0]) ?_ 0 _ rfl; (with_reducible repeat (first | refine blk_drewN ?_ _ | refine blk_drew ?_ | refine blk_alloc ?_ _)); exact BK300.out) Tryz.underlying25 rfl (by kernel_rfl)) rfl ?_
    exact ⟨_, _, by first | rfl | (simp [errW_none, errW_some] <;> rfl) | (simp [*, errW_none, errW_some] <;> rfl), by (with_reducible repeat (first | apply Kd.R_alloc | apply Kd.R_drewN | apply Kd.R_drew)); exact Kd.R_mono (Kd.R_far (p := ⟨gb300, 1, none⟩) (Kd.R_far (p := ⟨gb300, 0, none⟩) (Kd.R_types HO303.out BK300.out (by decide)) (fun _ hk => hk.2) (.slice Ao16 y301.length co16)) (fun _ hk => hk.2) (.slice Ao15 y316.length co15)) (fun _ hk => trivial), by (with_reducible repeat (first | apply Kd.R_alloc | apply Kd.R_drewN | apply Kd.R_drew)); exact Kd.R_mono (Kd.R_far (p := ⟨gb300, 1, none⟩) (Kd.R_far (p := ⟨gb300, 0, none⟩) (Kd.R_types HO318.out BK300.out (by decide)) (fun _ hk => hk.2) (.slice Ao16 y301.length co16)) (fun _ hk => hk.2) (.slice Ao15 y316.length co15)) (fun _ hk => trivial), by repeat (first | (with_reducible first | exact HB.out | apply below_alloc | apply pw_below_drewN | apply below_drew1 | refine below_set ?_ GE300.out) | exact HB.out)⟩
  · rw [if_neg c5] at H
    exact absurd H (by simp)
end Go.Proofs.YtdjlfdbnmnjccaaGreat.St
end
section
namespace Go.Proofs.YtdjlfdbnmnjccaaGreat.St
open Go.RowKit Go.Proofs.YtdjlfdbnmnjccaaGreatW.PrintWords Go.Proofs.YtdjlfdbnmnjccaaGreatW.PrintLast Go.Proofs.YtdjlfdbnmnjccaaGreatW.PrintMore
attribute [local go_sem] max2_int min2_int max_two min_two max_three min_three max_four min_four
set_option linter.unusedVariables false
set_option linter.unusedSimpArgs false
def smaltolaw08_orders.f  : Option ((List (S62))) := some (([(⟨0, 150, (⟨#[109, 105, 108, 108]⟩ : ByteArray)⟩ : S62), (⟨0, 210, (⟨#[109, 105, 108, 108]⟩ : ByteArray)⟩ : S62), (⟨2, 120, (⟨#[113, 117, 101, 101, 110]⟩ : ByteArray)⟩ : S62)] : List (S62)))
set_option maxHeartbeats 8000000 in
set_option maxRecDepth 100000 in
theorem smaltolaw08_orders.calls  (r : List (S62)) (w : World) (h : smaltolaw08_orders.f  = some r) :
    Calls Tryz.prog 57 #[] w fun e w' => ∃ v0_ : Value, e = .returned (v0_) ∧ Kd.R k62 62 w' w.heap.size (fun _ => True) v0_ r ∧ Below w.heap.size w w' := by
  have hu62 := Tryz.underlying62
  have HB := Aside0.mk (Below.refl w.heap.size w)
  have H : (some (([(⟨0, 150, (⟨#[109, 105, 108, 108]⟩ : ByteArray)⟩ : S62), (⟨0, 210, (⟨#[109, 105, 108, 108]⟩ : ByteArray)⟩ : S62), (⟨2, 120, (⟨#[113, 117, 101, 101, 110]⟩ : ByteArray)⟩ : S62)] : List (S62)))) = some r := h
  clear h
  obtain ⟨y319, hy319⟩ : ∃ y_ : List (S62), y_ = (([(⟨0, 150, (⟨#[109, 105, 108, 108]⟩ : ByteArray)⟩ : S62), (⟨0, 210, (⟨#[109, 105, 108, 108]⟩ : ByteArray)⟩ : S62), (⟨2, 120, (⟨#[113, 117, 101, 101, 110]⟩ : ByteArray)⟩ : S62)] : List (S62))) := ⟨_, rfl⟩
  replace H : (some y319) = some r := by first | (rw [hy319]; with_reducible exact H) | (have H2_ := (Option.bind_some _ _).symm.trans H; rw [hy319]; with_reducible exact H2_) | (have H2_ := (Option.bind_some _ _).symm.trans H; with_reducible exact H2_) | with_reducible exact H | (rw [hy319]; exact H) | exact H
  have Ny319 := Aside0.mk hy319
  clear hy319
  obtain rfl := Option.some.inj H
  go_enter Tryz.func57, Tryz.ntmps57
  go_wp2_with (first | ((with_reducible refine gate_dst (N := 4) rfl ?_); refine Kd.R_lit k62 _ 62 ?hg (N := 4) ?hd (xs := ([(⟨0, 150, (⟨#[109, 105, 108, 108]⟩ : ByteArray)⟩ : S62), (⟨0, 210, (⟨#[109, 105, 108, 108]⟩ : ByteArray)⟩ : S62), (⟨2, 120, (⟨#[113, 117, 101, 101, 110]⟩ : ByteArray)⟩ : S62)] : List (S62))) (inner := [.int .i64 0, .int .i64 150, .string (⟨#[109, 105, 108, 108]⟩ : ByteArray), .int .i64 0, .int .i64 210, .string (⟨#[109, 105, 108, 108]⟩ : ByteArray), .int .i64 2, .int .i64 120, .string (⟨#[113, 117, 101, 101, 110]⟩ : ByteArray)]) (ok := fun _ => True) (okp := fun _ => True) ?hr ?hp (fun _ hk => hk) trivial (Below.refl _ _) (Nat.le_refl _) (by simp) ?_; (case hd => rfl); (case hg => rfl); (case hr => first | (go_simp; done) | (go_simp; rfl)); (case hp => exact (Reps.c3 (show Kd.M k62 _ _ _ (⟨0, 150, (⟨#[109, 105, 108, 108]⟩ : ByteArray)⟩ : S62) [.int .i64 0, .int .i64 150, .string (⟨#[109, 105, 108, 108]⟩ : ByteArray)] from (k62_mkM _ _ _ (⟨0, 150, (⟨#[109, 105, 108, 108]⟩ : ByteArray)⟩ : S62) )) (Reps.c3 (show Kd.M k62 _ _ _ (⟨0, 210, (⟨#[109, 105, 108, 108]⟩ : ByteArray)⟩ : S62) [.int .i64 0, .int .i64 210, .string (⟨#[109, 105, 108, 108]⟩ : ByteArray)] from (k62_mkM _ _ _ (⟨0, 210, (⟨#[109, 105, 108, 108]⟩ : ByteArray)⟩ : S62) )) (Reps.c3 (show Kd.M k62 _ _ _ (⟨2, 120, (⟨#[113, 117, 101, 101, 110]⟩ : ByteArray)⟩ : S62) [.int .i64 2, .int .i64 120, .string (⟨#[113, 117, 101, 101, 110]⟩ : ByteArray)] from (k62_mkM _ _ _ (⟨2, 120, (⟨#[113, 117, 101, 101, 110]⟩ : ByteArray)⟩ : S62) )) (Reps.none _ _))))); intro v320 w1 ho2 hb hg_ hnew_; clear hg_ hnew_; (first | rw [← Ny319.out] at ho2 | (simp only [Int.reduceToNat] at ho2; rw [← Ny319.out] at ho2)); have n0_ := Aside0.mk (Kd.R_lower ho2 (below_size (by repeat (first | (with_reducible first | exact HB.out | apply below_alloc | apply pw_below_drewN | apply below_drew1) | exact HB.out)))); have n1_ := Aside0.mk (below_step (by repeat (first | (with_reducible first | exact HB.out | apply below_alloc | apply pw_below_drewN | apply below_drew1) | exact HB.out)) hb); clear HB; have HO321 := n0_; have HB := n1_; clear n0_ n1_; clear hb ho2))
  go_ret
  exact ⟨_, by first | rfl | (simp [errW_none, errW_some] <;> rfl) | (simp [*, errW_none, errW_some] <;> rfl), by (with_reducible repeat (first | apply Kd.R_alloc | apply Kd.R_drewN | apply Kd.R_drew)); exact HO321.out, by repeat (first | (with_reducible first | exact HB.out | apply below_alloc | apply pw_below_drewN | apply below_drew1) | exact HB.out)⟩
end Go.Proofs.YtdjlfdbnmnjccaaGreat.St
end
section
namespace Go.Proofs.YtdjlfdbnmnjccaaGreat.St
open Go.RowKit Go.Proofs.YtdjlfdbnmnjccaaGreatW.PrintWords Go.Proofs.YtdjlfdbnmnjccaaGreatW.PrintLast Go.Proofs.YtdjlfdbnmnjccaaGreatW.PrintMore
attribute [local go_sem] max2_int min2_int max_two min_two max_three min_three max_four min_four
set_option linter.unusedVariables false
set_option linter.unusedSimpArgs false
def smaltolaw08_span.f (a0 : Int) (a1 : Int) : Option (Int × Int) := some (a0, a1)
set_option maxHeartbeats 8000000 in
set_option maxRecDepth 100000 in
theorem smaltolaw08_span.calls (a0 : Int) (a1 : Int) (r1 : Int) (r2 : Int) (w : World) (h : smaltolaw08_span.f a0 a1 = some (r1, r2)) :
    Calls Tryz.prog 58 #[.int .i64 a0, .int .i64 a1] w fun e w' => e = .returned (.agg #[.int .i64 r1, .int .i64 r2]) ∧ Below w.heap.size w w' := by
  have hu75 := Tryz.underlying75
  have HB := Aside0.mk (Below.refl w.heap.size w)
  have H : (some (a0, a1)) = some (r1, r2) := h
  clear h
  simp only [Option.some.injEq, Prod.mk.injEq] at H
  obtain ⟨rfl, rfl⟩ := H
  go_enter Tryz.func58, Tryz.ntmps58
  go_wp2_with (first | ((with_reducible refine gate_dst (N := 4) rfl ?_); refine box_event ?hg (N := 4) ?hd (cs := #[.int .i64 0, .int .i64 0]) (t := 75) ?hr ?_; (case hd => rfl); (case hg => rfl); (case hr => first | (go_simp; done) | (go_simp; rfl)); intro gb322 hg w3 hbox hb; have n0_ := Aside0.mk (below_step (by repeat (first | (with_reducible first | exact HB.out | apply below_alloc | apply pw_below_drewN | apply below_drew1) | exact HB.out)) hb); have n1_ := Aside0.mk (hbox); have n2_ := Aside0.mk ((by rw [hg]; exact (below_size (by repeat (first | (with_reducible first | exact HB.out | apply below_alloc | apply pw_below_drewN | apply below_drew1) | exact HB.out))) : w.heap.size ≤ gb322)); have n3_ := Aside0.mk ((by rw [hg]; exact (below_size (by repeat (first | (with_reducible first | exact HB.out | apply below_alloc | apply pw_below_drewN | apply below_drew1) | exact HB.out))) : w.heap.size ≤ gb322)); clear HB; have HB := n0_; have BK322 := n1_; have GW322 := n2_; have GE322 := n3_; clear n0_ n1_ n2_ n3_; clear hb hbox hg; have hcz4_0 : w3.cell? ⟨gb322, 0, none⟩ = some (.int .i64 0) := (blk_cell BK322.out 0).trans rfl; have hcz4_1 : w3.cell? ⟨gb322, 1, none⟩ = some (.int .i64 0) := (blk_cell BK322.out 1).trans rfl; have hfz4_0 := blk_frozen BK322.out 0; have hfz4_1 := blk_frozen BK322.out 1))
  refine bodyPost_ret (results_cell_row rfl _ _ gb322 75 #[.int .i64 a0, .int .i64 a1] (0, 0) _ rfl (by (with_reducible repeat (first | refine blk_drewN ?_ _ | refine blk_drew ?_ | refine blk_alloc ?_ _)); refine blk_put (cs := #[.int .i64 a0, .int .i64 0]) ?_ 1 _ rfl; (with_reducible repeat (first | refine blk_drewN ?_ _ | refine blk_drew ?_ | refine blk_alloc ?_ _)); refine blk_put (cs := #[.int .i64 0, .int .i64 0]) ?_ 0 _ rfl; (with_reducible repeat (first | refine blk_drewN ?_ _ | refine blk_drew ?_ | refine blk_alloc ?_ _)); exact BK322.out) Tryz.underlying75 rfl (by kernel_rfl)) rfl ?_
  exact ⟨by first | rfl | (simp [errW_none, errW_some] <;> rfl) | (simp [*, errW_none, errW_some] <;> rfl), by repeat (first | (with_reducible first | exact HB.out | apply below_alloc | apply pw_below_drewN | apply below_drew1 | refine below_set ?_ GE322.out) | exact HB.out)⟩
end Go.Proofs.YtdjlfdbnmnjccaaGreat.St
end
section
namespace Go.Proofs.YtdjlfdbnmnjccaaGreat.St
open Go.RowKit Go.Proofs.YtdjlfdbnmnjccaaGreatW.PrintWords Go.Proofs.YtdjlfdbnmnjccaaGreatW.PrintLast Go.Proofs.YtdjlfdbnmnjccaaGreatW.PrintMore
def xMill : ByteArray := ⟨#[109, 105, 108, 108]⟩
def xChurch : ByteArray := ⟨#[99, 104, 117, 114, 99, 104]⟩
def xKing : ByteArray := ⟨#[107, 105, 110, 103]⟩
def xQueen : ByteArray := ⟨#[113, 117, 101, 101, 110]⟩
def xCrown : ByteArray := ⟨#[99, 114, 111, 119, 110]⟩
def xKin : ByteArray := ⟨#[107, 105, 110]⟩
def xMil : ByteArray := ⟨#[109, 105, 108]⟩
def xF : List ByteArray := [xMill, xChurch, xKing]
def xC : List S60 := [⟨100, 2, xQueen⟩, ⟨200, 0, xKing⟩, ⟨300, 2, xMill⟩]
def xC1 : List S60 := [⟨100, 2, xQueen⟩, ⟨200, 0, xKing⟩, ⟨300, 2, xMill⟩, ⟨250, 1, xKing⟩]
def xO : List S62 := [⟨0, 150, xMill⟩, ⟨0, 210, xMill⟩, ⟨2, 120, xQueen⟩]
def xS1 : List S89 := [⟨2, xQueen⟩, ⟨0, xKing⟩]
def xS2 : List S89 := [⟨2, xQueen⟩, ⟨0, xMill⟩, ⟨1, xKing⟩]
theorem ev_town : smaltolaw08_town.f [] = some (xF, xC) := by kernel_rfl
theorem ev_town1 : smaltolaw08_town.f [⟨250, 1, xKing⟩] = some (xF, xC1) := by kernel_rfl
theorem ev_orders : smaltolaw08_orders.f = some xO := by kernel_rfl
theorem ev_clash0 : street_Clash.f xF xC = some (0, [], 6) := by kernel_rfl
def insI (x : Int) : List Int → List Int
  | [] => [x]
  | y :: ys => if x ≤ y then x :: y :: ys else y :: insI x ys
def isI (l : List Int) : List Int := l.foldr insI []
theorem insI_perm (x : Int) : ∀ l, (insI x l).Perm (x :: l)
  | [] => List.Perm.refl _
  | y :: ys => by
    unfold insI
    split
    · exact List.Perm.refl _
    · exact ((insI_perm x ys).cons y).trans (List.Perm.swap x y ys)
theorem isI_perm : ∀ l, (isI l).Perm l
  | [] => List.Perm.refl _
  | x :: l => (insI_perm x (isI l)).trans ((isI_perm l).cons x)
theorem insI_asc (x : Int) : ∀ l : List Int, l.Pairwise (· ≤ ·) → (insI x l).Pairwise (· ≤ ·)
  | [], _ => by simp [insI]
  | y :: ys, h => by
    rw [List.pairwise_cons] at h
    unfold insI
    split
    · rename_i hlt
      rw [List.pairwise_cons, List.pairwise_cons]
      refine ⟨fun z hz => ?_, h.1, h.2⟩
      rcases List.mem_cons.1 hz with rfl | hz
      · exact hlt
      · exact Int.le_trans hlt (h.1 z hz)
    · rename_i hlt
      rw [List.pairwise_cons]
      refine ⟨fun z hz => ?_, insI_asc x ys h.2⟩
      have := (insI_perm x ys).mem_iff.1 hz
      rcases List.mem_cons.1 this with rfl | hz'
      · omega
      · exact h.1 z hz'
theorem isI_asc : ∀ l, (isI l).Pairwise (· ≤ ·)
  | [] => by simp [isI]
  | x :: l => insI_asc x (isI l) (isI_asc l)
theorem sortI_perm (l : List Int) : (sortI l).Perm l := List.mergeSort_perm l _
theorem sortI_asc (l : List Int) : (sortI l).Pairwise (· ≤ ·) := by
  have h := List.pairwise_mergeSort (le := fun x y : Int => decide (x ≤ y)) (fun a b c h1 h2 => by simp at *; omega) (fun a b => by simp; omega) l
  exact h.imp (fun h => by simpa using h)
theorem sortI_isI (l : List Int) : sortI l = isI l :=
  List.Perm.eq_of_pairwise (le := (· ≤ ·)) (fun a b _ _ h1 h2 => Int.le_antisymm h1 h2) (sortI_asc l) (isI_asc l) ((sortI_perm l).trans (isI_perm l).symm)
def bookFromI : Nat → List ByteArray → List S60 → List S167 → List S167 × Int × List Int
  | 0, _, _, ps => (ps, 0, [])
  | _ + 1, _, [], ps => (ps, 0, [])
  | n + 1, ns, c :: cs, ps =>
    if clashOf (((c :: cs).takeWhile fun d => decide (d.f0 = c.f0)).map (·.f1)) (setNames ns ((c :: cs).takeWhile fun d => decide (d.f0 = c.f0))) = [] then
      bookFromI n (setNames ns ((c :: cs).takeWhile fun d => decide (d.f0 = c.f0))) ((c :: cs).dropWhile fun d => decide (d.f0 = c.f0)) (ps ++ [⟨c.f0, setNames ns ((c :: cs).takeWhile fun d => decide (d.f0 = c.f0))⟩])
    else (ps, c.f0, Lib.compact (isI (clashOf (((c :: cs).takeWhile fun d => decide (d.f0 = c.f0)).map (·.f1)) (setNames ns ((c :: cs).takeWhile fun d => decide (d.f0 = c.f0))))))
theorem bookFrom_I : ∀ n ns cs ps, bookFrom n ns cs ps = bookFromI n ns cs ps
  | 0, _, _, _ => rfl
  | _ + 1, _, [], _ => rfl
  | n + 1, ns, c :: cs, ps => by
    unfold bookFrom bookFromI
    rw [bookFrom_I n, sortI_isI]
theorem ev_book1 : bookOf xF xC1 = ([⟨0, [xMill, xChurch, xKing]⟩, ⟨100, [xMill, xChurch, xQueen]⟩, ⟨200, [xKing, xChurch, xQueen]⟩], 250, [0, 1]) := by
  unfold bookOf
  rw [bookFrom_I]
  kernel_rfl
theorem ev_check1 : checkE xF xC1 = 0 := by kernel_rfl
theorem ev_clash1 : street_Clash.f xF xC1 = some (250, [0, 1], 0) := by
  unfold street_Clash.f clashR
  rw [ev_book1, ev_check1]
  rfl
theorem ev_name : street_Name.f xF xC 0 199 = some (xMill, 0) := by kernel_rfl
theorem ev_who : street_Who.f xF xC xKing 250 = some (0, 0) := by kernel_rfl
theorem ev_hist : street_History.f xF xC 2 = some ([⟨xKing, ⟨0, 99⟩⟩, ⟨xQueen, ⟨100, 299⟩⟩, ⟨xMill, ⟨300, 1000⟩⟩], 0) := by kernel_rfl
theorem ev_again : street_Again.f xF xC = some ([xKing, xMill], 0) := by kernel_rfl
theorem ev_must : street_Must.f xF xC xO = some ([xMill, xKing, xQueen], [1], 0) := by kernel_rfl
theorem ev_changed : street_Changed.f xF xC xO 110 2 xCrown = some ([2], 0) := by kernel_rfl
theorem ev_meant : street_Meant.f xF xC xKin 50 150 1 = some ([], [2], 0) := by kernel_rfl
theorem ev_near : street_Nearest.f xF xC xMil 250 = some ([0], 3, 0) := by kernel_rfl
theorem ev_hours : street_Hours.f xF xC xS1 = some ([⟨200, 299⟩], 0) := by kernel_rfl
theorem ev_wrong : street_Wrong.f xF xC xS2 = some ([2], 0) := by kernel_rfl
end Go.Proofs.YtdjlfdbnmnjccaaGreat.St
end
section
set_option linter.unusedVariables false
set_option linter.unusedSimpArgs false
namespace Go.Proofs.YtdjlfdbnmnjccaaGreat.St
open Go.RowKit Go.Proofs.YtdjlfdbnmnjccaaGreatW.PrintWords Go.Proofs.YtdjlfdbnmnjccaaGreatW.PrintLast Go.Proofs.YtdjlfdbnmnjccaaGreatW.PrintMore
structure LC {α : Type} (d : Kd α) (w : World) (A : Option Addr) (c : Nat) (xs : List α) : Prop where
  kc : Kd.C d w A xs.length xs
  kn : xs.length ≤ c
theorem LC.below {α : Type} {d : Kd α} {w w' : World} {A : Option Addr} {c : Nat} {xs : List α} (h : LC d w A c xs) (hb : Below w.heap.size w w') : LC d w' A c xs := ⟨Kd.C_below h.kc hb, h.kn⟩
theorem LC.of {α : Type} {d : Kd α} {e base : Nat} {ok : Nat → Prop} {w : World} {v : Value} {xs : List α} (h : Kd.R d e w base ok v xs) : ∃ A c, v = .slice A xs.length c ∧ LC d w A c xs := by
  obtain ⟨A, c, e, h1, h2⟩ := Kd.R_reads h
  exact ⟨A, c, e, h2, h1⟩
theorem R_new {α : Type} (d : Kd α) (e : Nat) (W : World) (xs : List α) (inner : List Value) (hrep : Reps (d.M W W.heap.size fun _ => True) d.sz xs inner) (hm : xs.length ≤ 9223372036854775807) :
    Kd.R d e (W.alloc (.cells inner.toArray e)) W.heap.size (fun _ => True) (.slice (some ⟨W.heap.size, 0, none⟩) xs.length xs.length) xs := by
  refine ⟨fun _ _ => trivial, inner, ?_, ?_⟩
  · have h2 := World.ownsRow_lit (base := W.heap.size) (e := e) (size := d.sz) W inner.toArray xs.length (Nat.le_refl _) (by simpa [maxLen] using hm) (by simpa using hrep.1)
    simpa using h2
  · refine hrep.imp_ (fun p c hp => d.M_mono (fun k hk => ⟨trivial, fun he => ?_⟩) (Kd.M_below (d.M_bound hp) (below_alloc (Below.refl _ _) _)))
    have h3 : k = W.heap.size := by simpa [Value.ownBlock] using he
    have := hk.2.2.1
    omega
theorem LC.new {α : Type} (d : Kd α) (e : Nat) (W : World) (xs : List α) (inner : List Value) (hrep : Reps (d.M W W.heap.size fun _ => True) d.sz xs inner) (hm : xs.length ≤ 9223372036854775807) :
    LC d (W.alloc (.cells inner.toArray e)) (some ⟨W.heap.size, 0, none⟩) xs.length xs := by
  obtain ⟨A, c, e1, h1⟩ := LC.of (R_new d e W xs inner hrep hm)
  injection e1 with e1 e2 e3
  subst e1
  subst e3
  exact h1
theorem LC.one {w : World} (s : ByteArray) (t : Nat) {g : Nat} (h : w.heap.size = g) : LC Kd.string (w.alloc (.cells #[.string s] t)) (some ⟨g, 0, none⟩) 1 [s] := by
  subst h
  exact LC.new Kd.string t w [s] [.string s] (Reps.one rfl (Reps.none _ _)) (by simp)
theorem LC.ofR {α : Type} {d : Kd α} {e base : Nat} {ok : Nat → Prop} {w : World} {A : Option Addr} {n c : Nat} {xs : List α} (h : Kd.R d e w base ok (.slice A n c) xs) : LC d w A c xs := by
  obtain ⟨A', c', e1, k⟩ := LC.of h
  injection e1 with e1 e2 e3
  subst e1; subst e3
  exact k
structure TwC (w : World) (A : Option Addr) (c : Nat) (l0 : List ByteArray) (A' : Option Addr) (c' : Nat) (l1 : List S60) : Prop where
  f : LC Kd.string w A c l0
  g : LC k60 w A' c' l1
theorem TwC.below {w w' : World} {A A' : Option Addr} {c c' : Nat} {l0 : List ByteArray} {l1 : List S60} (h : TwC w A c l0 A' c' l1) (hb : Below w.heap.size w w') : TwC w' A c l0 A' c' l1 := ⟨h.f.below hb, h.g.below hb⟩
structure TwR (w : World) (base : Nat) (A : Option Addr) (c : Nat) (l0 : List ByteArray) (A' : Option Addr) (c' : Nat) (l1 : List S60) : Prop where
  f : Kd.R Kd.string 9 w base (fun _ => True) (.slice A l0.length c) l0
  g : Kd.R k60 60 w base (fun _ => True) (.slice A' l1.length c') l1
theorem TwR.tw {w : World} {base : Nat} {A A' : Option Addr} {c c' : Nat} {l0 : List ByteArray} {l1 : List S60} (h : TwR w base A c l0 A' c' l1) : TwC w A c l0 A' c' l1 := ⟨LC.ofR h.f, LC.ofR h.g⟩
theorem TwR.set2 {w : World} {base : Nat} {A A' : Option Addr} {c c' : Nat} {l0 : List ByteArray} {l1 : List S60} (h : TwR w base A c l0 A' c' l1) {g : Nat} {x0 x1 : Value} (hb : w.heap[g]? = some (.cells #[x0, x1] 25 (0, 0))) (y0 y1 : Value) : TwR ((w.setCell ⟨g, 0, none⟩ y0).setCell ⟨g, 1, none⟩ y1) base A c l0 A' c' l1 :=
  ⟨Kd.R_set (Kd.R_set h.f hb (by decide) 0 y0) (blk_put hb 0 y0 rfl) (by decide) 1 y1, Kd.R_set (Kd.R_set h.g hb (by decide) 0 y0) (blk_put hb 0 y0 rfl) (by decide) 1 y1⟩
def calledL (s h : Int) : List S60 → ByteArray → Int → ByteArray
  | [], nm, _ => nm
  | c :: cs, nm, a => if c.f1 = s ∧ c.f0 ≤ h ∧ a ≤ c.f0 then calledL s h cs c.f2 c.f0 else calledL s h cs nm a
def calledP (first : List ByteArray) (changes : List S60) (s h : Int) : ByteArray := calledL s h changes (rdOf ByteArray.empty first s) 0
theorem drop_rd {xs : List S60} {i : Nat} (h : i < xs.length) : xs.drop i = rd_T60 xs (i : Int) :: xs.drop (i + 1) := by
  rw [List.drop_eq_getElem_cons h]
  congr 1
  unfold rd_T60
  simp [List.getD_eq_getElem?_getD, h]
theorem w64 {i : Nat} (h : i < 1000000) : wrap64 ((i : Int) + 1) = ((i + 1 : Nat) : Int) := by unfold wrap64; omega
end Go.Proofs.YtdjlfdbnmnjccaaGreat.St
end
