/- The functions that this claim's statement reaches, each with what it computes and the proof that it does. -/
import Derived.Test.YtokkjnfdfbpphaaR1
namespace Go.Proofs.Ytokkjnfdfbpphaa.A
open Go.RowKit Go.Proofs.YtokkjnfdfbpphaaW.PrintWords Go.Proofs.YtokkjnfdfbpphaaW.PrintLast Go.Proofs.YtokkjnfdfbpphaaW.PrintMore
attribute [local go_sem] max2_int min2_int max_two min_two max_three min_three max_four min_four   -- for this text's walks alone
set_option linter.unusedVariables false
set_option linter.unusedSimpArgs false

/-! ### say_parser_float: function 70 -/
def say_parser_float.l0 : Nat → Int → ByteArray → Int → Int → List (S28) → Int → Int → Int → Int → Bool → Int → Int → ByteArray → Option (Int × Bool × Int × Int × ByteArray × Int × Int × Int)
  | 0, _, _, _, _, _, _, _, _, _, _, _, _, _ => none
  | k + 1, x3, x4, x24, x25, x1000, x1001, x1002, x1003, x196000, x196001, x196002, x196003, x196004 => if x25 < x24 then (if 0 ≤ x25 then (if x25 < (x4.size : Int) then ((say_nibble.f (bt x4 x25)).bind fun t196 => (if t196 < 0 then ((say_parser_fail.f x1000 x3 x1002 x1003).bind fun bt197 => (some (0, false, 0, 0, (⟨#[]⟩ : ByteArray), bt197.1, bt197.2.1, bt197.2.2))) else (if (x4.size : Int) = 16 then (say_parser_float.l0 k x3 x4 x24 (wrap64 (x25 + 1)) x1000 x1001 x1002 x1003 x196000 x196001 x196002 (Go.bits .or .u64 (IntKind.u64.wrap (x196003 * 16)) (IntKind.u64.wrap (t196))) x196004) else ((say_parser_fail.f x1000 x3 x1002 x1003).bind fun bt200 => (some (0, false, 0, 0, (⟨#[]⟩ : ByteArray), bt200.1, bt200.2.1, bt200.2.2)))))) else (none)) else (none)) else (if x4.toList = ([] : List UInt8) then ((say_parser_fail.f x1000 x3 x1002 x1003).bind fun bt203 => ((say_parser_mark.f x1000 bt203.1 bt203.2.1 bt203.2.2 (⟨#[41]⟩ : ByteArray)).bind fun bt206 => (some (x196000, x196001, x196002, x196003, x196004, bt206.1, bt206.2.1, bt206.2.2)))) else ((say_parser_mark.f x1000 x1001 x1002 x1003 (⟨#[41]⟩ : ByteArray)).bind fun bt209 => (some (x196000, x196001, x196002, x196003, x196004, bt209.1, bt209.2.1, bt209.2.2))))
def say_parser_float.f (k : Nat) (s0_0 : List (S28)) (s0_1 : Int) (s0_2 : Int) (s0_3 : Int) : Option (Int × Bool × Int × Int × ByteArray × Int × Int × Int) := (say_parser_mark.f s0_0 s0_1 s0_2 s0_3 (⟨#[40]⟩ : ByteArray)).bind fun bt188 => ((say_parser_take.f s0_0 bt188.1 bt188.2.1 bt188.2.2 2).bind fun bt191 => (if bt191.2.2.2 ≥ 0 then (some (0, false, 0, 0, (⟨#[]⟩ : ByteArray), bt191.2.1, bt191.2.2.1, bt191.2.2.2)) else (say_parser_float.l0 k bt188.1 bt191.1 (bt191.1.size : Int) 0 s0_0 bt191.2.1 bt191.2.2.1 bt191.2.2.2 3 false 0 0 (⟨#[]⟩ : ByteArray))))
theorem say_parser_float.mono_l : ∀ k, (∀ y0 y1 y2 y3 y4 y5 y6 y7 y8 y9 y10 y11 y12, LeO (say_parser_float.l0 k y0 y1 y2 y3 y4 y5 y6 y7 y8 y9 y10 y11 y12) (say_parser_float.l0 (k + 1) y0 y1 y2 y3 y4 y5 y6 y7 y8 y9 y10 y11 y12))
  | 0 => fun _ _ _ _ _ _ _ _ _ _ _ _ _ r h => by simp [say_parser_float.l0] at h
  | k + 1 => by
    have ih0 := say_parser_float.mono_l k
    · intro y0 y1 y2 y3 y4 y5 y6 y7 y8 y9 y10 y11 y12
      unfold say_parser_float.l0
      repeat' first
      | (with_reducible exact ih0 _ _ _ _ _ _ _ _ _ _ _ _ _)
      | (with_reducible exact LeO.refl _)
      | (with_reducible exact LeO.none _)
      | (with_reducible refine LeO.ite ?_ ?_)
      | (with_reducible refine LeO.bind ?_ (fun _ => ?_))
      | exact ih0 _ _ _ _ _ _ _ _ _ _ _ _ _
      | exact LeO.none _
      | refine LeO.ite ?_ ?_
      | refine LeO.bind ?_ (fun _ => ?_)
theorem say_parser_float.mono : ∀ a0 a1 a2 a3 k, LeO (say_parser_float.f k a0 a1 a2 a3) (say_parser_float.f (k + 1) a0 a1 a2 a3) := by
  intro a0 a1 a2 a3 k
  have ih0 := say_parser_float.mono_l k
  unfold say_parser_float.f
  repeat' first
      | (with_reducible exact ih0 _ _ _ _ _ _ _ _ _ _ _ _ _)
      | (with_reducible exact LeO.refl _)
      | (with_reducible exact LeO.none _)
      | (with_reducible refine LeO.ite ?_ ?_)
      | (with_reducible refine LeO.bind ?_ (fun _ => ?_))
      | exact ih0 _ _ _ _ _ _ _ _ _ _ _ _ _
      | exact LeO.none _
      | refine LeO.ite ?_ ?_
      | refine LeO.bind ?_ (fun _ => ?_)
set_option maxHeartbeats 8000000 in
set_option maxRecDepth 100000 in
theorem say_parser_float.calls (k : Nat) (g : Nat) (s0_0 : List (S28)) (s0_1 : Int) (s0_2 : Int) (s0_3 : Int) (r1 : Int) (r2 : Bool) (r3 : Int) (r4 : Int) (r5 : ByteArray) (r6 : Int) (r7 : Int) (r8 : Int) (w0 w : World) (hI : IsS74 w0 w g s0_0 s0_1 s0_2 s0_3) (hB : Below w0.heap.size w0 w) (h : say_parser_float.f k s0_0 s0_1 s0_2 s0_3 = some (r1, r2, r3, r4, r5, r6, r7, r8)) :
    Calls Try.prog 70 #[.pointer (some ⟨g, 0, none⟩)] w fun e w' => e = .returned (.agg #[.int .i64 r1, .bool r2, .int .i64 r3, .int .u64 r4, .string r5]) ∧ IsS74 w0 w' g s0_0 r6 r7 r8 ∧ Below w0.heap.size w0 w' ∧ KeepBut w w' g none := by
  have hu33 := Try.underlying33
  have HI0 := Aside0.mk hI
  have HK := Aside0.mk (KeepBut.refl w g none)
  have HL := Aside0.mk hB.size
  clear hI
  have HW0 := Aside0.mk hB.size
  have HB := Aside0.mk hB
  clear hB
  have H : ((say_parser_mark.f s0_0 s0_1 s0_2 s0_3 (⟨#[40]⟩ : ByteArray)).bind fun bt188 => ((say_parser_take.f s0_0 bt188.1 bt188.2.1 bt188.2.2 2).bind fun bt191 => (if bt191.2.2.2 ≥ 0 then (some (0, false, 0, 0, (⟨#[]⟩ : ByteArray), bt191.2.1, bt191.2.2.1, bt191.2.2.2)) else (say_parser_float.l0 k bt188.1 bt191.1 (bt191.1.size : Int) 0 s0_0 bt191.2.1 bt191.2.2.1 bt191.2.2.2 3 false 0 0 (⟨#[]⟩ : ByteArray))))) = some (r1, r2, r3, r4, r5, r6, r7, r8) := h
  clear h
  replace H := Option.bind_eq_some_iff.mp H
  obtain ⟨⟨t188, t189, t190⟩, A20, H⟩ := H
  replace H : ((say_parser_take.f s0_0 t188 t189 t190 2).bind fun bt191 => (if bt191.2.2.2 ≥ 0 then (some (0, false, 0, 0, (⟨#[]⟩ : ByteArray), bt191.2.1, bt191.2.2.1, bt191.2.2.2)) else (say_parser_float.l0 k t188 bt191.1 (bt191.1.size : Int) 0 s0_0 bt191.2.1 bt191.2.2.1 bt191.2.2.2 3 false 0 0 (⟨#[]⟩ : ByteArray)))) = some (r1, r2, r3, r4, r5, r6, r7, r8) := H
  have A2 := Aside0.mk A20
  clear A20
  replace H := Option.bind_eq_some_iff.mp H
  obtain ⟨⟨t191, t192, t193, t194⟩, A30, H⟩ := H
  replace H : (if t194 ≥ 0 then (some (0, false, 0, 0, (⟨#[]⟩ : ByteArray), t192, t193, t194)) else (say_parser_float.l0 k t188 t191 (t191.size : Int) 0 s0_0 t192 t193 t194 3 false 0 0 (⟨#[]⟩ : ByteArray))) = some (r1, r2, r3, r4, r5, r6, r7, r8) := H
  have A3 := Aside0.mk A30
  clear A30
  by_cases c4 : t194 ≥ 0
  · rw [if_pos c4] at H
    have c4b0 : decide (0 ≤ t194) = true := decide_eq_true c4
    clear c4
    simp only [Option.some.injEq, Prod.mk.injEq] at H
    obtain ⟨rfl, rfl, rfl, rfl, rfl, rfl, rfl, rfl⟩ := H
    go_enter Try.func70, Try.ntmps70
    go_wp2_with (first | ((with_reducible refine gate_dst (N := 2) rfl ?_); (try (refine gate_guard (by rfl) ?_; dsimp only)); refine box_event ?hg (N := 2) ?hd (cs := #[.int .i64 0, .bool false, .int .i64 0, .int .u64 0, .string (⟨#[]⟩ : ByteArray)]) (t := 33) ?hr ?_; (case hd => rfl); (case hg => rfl); (case hr => first | (go_simp; done) | (go_simp; rfl)); intro gb187 hg w5 hbox hb; have n0_ := Aside0.mk (IsS74.below (by repeat (first | (with_reducible first | exact HI0.out | apply IsS74.alloc | apply IsS74.drewN | apply IsS74.drew | apply IsS74.set_1 | apply IsS74.set_2 | apply IsS74.set_3) | exact HI0.out)) hb); have n1_ := Aside0.mk (KeepBut.trans (by repeat (first | (with_reducible first | exact HK.out | apply KeepBut.set_ | apply keep_drewN | apply keep_drew | apply keep_alloc) | exact HK.out)) (KeepBut.of_below hb g none) (.inl rfl)); have n2_ := Aside0.mk (below_step (by repeat (first | (with_reducible first | exact HB.out | apply below_alloc | apply pw_below_drewN | apply below_drew1 | refine below_set ?_ (IsS74.ge HI0.out)) | exact HB.out)) hb); have n3_ := Aside0.mk (hbox); have n4_ := Aside0.mk ((by rw [hg]; exact (keep_size (w := w) (g := g) (row := none) (by repeat (first | (with_reducible first | exact HK.out | apply KeepBut.set_ | apply keep_drewN | apply keep_drew | apply keep_alloc) | exact HK.out))) : w.heap.size ≤ gb187)); have n5_ := Aside0.mk ((Nat.le_trans HW0.out (by rw [hg]; exact (keep_size (w := w) (g := g) (row := none) (by repeat (first | (with_reducible first | exact HK.out | apply KeepBut.set_ | apply keep_drewN | apply keep_drew | apply keep_alloc) | exact HK.out))) : w.heap.size ≤ gb187) : w0.heap.size ≤ gb187)); have n6_ := Aside0.mk ((by rw [hg]; exact Nat.ne_of_lt (IsS74.lt (show IsS74 w0 _ g s0_0 s0_1 s0_2 s0_3 from by repeat (first | (with_reducible first | exact HI0.out | apply IsS74.alloc | apply IsS74.drewN | apply IsS74.drew | apply IsS74.set_1 | apply IsS74.set_2 | apply IsS74.set_3) | exact HI0.out))) : g ≠ gb187)); have n7_ := Aside0.mk ((by rw [hg]; exact Nat.ne_of_gt (IsS74.lt (show IsS74 w0 _ g s0_0 s0_1 s0_2 s0_3 from by repeat (first | (with_reducible first | exact HI0.out | apply IsS74.alloc | apply IsS74.drewN | apply IsS74.drew | apply IsS74.set_1 | apply IsS74.set_2 | apply IsS74.set_3) | exact HI0.out))) : gb187 ≠ g)); clear HI0; clear HK; clear HB; have HI0 := n0_; have HK := n1_; have HB := n2_; have BK187 := n3_; have GW187 := n4_; have GE187 := n5_; have NB0_187 := n6_; have NB187_0 := n7_; clear n0_ n1_ n2_ n3_ n4_ n5_ n6_ n7_; clear hb hbox hg) | ((with_reducible refine gate_callee (f := 63) rfl ?_); refine goesL_ (some 9) rfl rfl Try.func63 (by kernel_rfl) rfl #[.pointer (some ⟨g, 0, none⟩), .string (⟨#[40]⟩ : ByteArray)] rfl (by (try simp only [List.map_toArray, List.map_cons, List.map_nil]); first | done | rfl | (simp only [List.length_drop, List.length_take]; rfl)) ?_; (with_reducible refine (say_parser_mark.calls g s0_0 s0_1 s0_2 s0_3 (⟨#[40]⟩ : ByteArray) t188 t189 t190 w0 _ ?side1 ?side2 A2.out).mono ?_); (case side1 => repeat (first | (with_reducible first | exact HI0.out | apply IsS74.alloc | apply IsS74.drewN | apply IsS74.drew | apply IsS74.set_1 | apply IsS74.set_2 | apply IsS74.set_3 | refine IsS74.far ?_ NB0_187.out _) | exact HI0.out)); (case side2 => repeat (first | (with_reducible first | exact HB.out | apply below_alloc | apply pw_below_drewN | apply below_drew1 | refine below_set ?_ (IsS74.ge HI0.out) | refine below_set ?_ GE187.out) | exact HB.out)); rintro e w6 ⟨rfl, hi, hb, hk⟩; refine ⟨_, rfl, ?_⟩; have n0_ := Aside0.mk (KeepBut.blk hk (g' := gb187) (o := .cells #[.int .i64 0, .bool false, .int .i64 0, .int .u64 0, .string (⟨#[]⟩ : ByteArray)] 33 (0, 0)) (by (with_reducible repeat (first | refine blk_drewN ?_ _ | refine blk_drew ?_ | refine blk_alloc ?_ _)); exact BK187.out) NB187_0.out (by simp)); have n1_ := Aside0.mk (KeepBut.trans (by repeat (first | (with_reducible first | exact HK.out | apply KeepBut.set_ | apply keep_drewN | apply keep_drew | apply keep_alloc | refine keep_far ?_ GW187.out _) | exact HK.out)) hk (.inl rfl)); have n2_ := Aside0.mk (hb); have n3_ := Aside0.mk (hi); clear BK187; clear HK; clear HB; clear HI0; have BK187 := n0_; have HK := n1_; have HB := n2_; have HI0 := n3_; clear n0_ n1_ n2_ n3_; (try clear hb); (try clear hb2); (try clear hk); (try clear hi); obtain ⟨ASz7_0, cSz7_0, HGz7, hgz7, HSz7_0⟩ := HI0.out; have hcz7_0 := cellS74_0 HGz7; have hcz7_1 := cellS74_1 HGz7; have hcz7_2 := cellS74_2 HGz7; have hcz7_3 := cellS74_3 HGz7; have hfz7_1 := blk_frozen HGz7 1; have hfz7_2 := blk_frozen HGz7 2; have hfz7_3 := blk_frozen HGz7 3; clear HGz7 hgz7) | ((with_reducible refine gate_callee (f := 61) rfl ?_); refine goesL_ (some 15) rfl rfl Try.func61 (by kernel_rfl) rfl #[.pointer (some ⟨g, 0, none⟩), .int .i64 2] rfl (by (try simp only [List.map_toArray, List.map_cons, List.map_nil]); first | done | rfl | (simp only [List.length_drop, List.length_take]; rfl)) ?_; (with_reducible refine (say_parser_take.calls g s0_0 t188 t189 t190 2 t191 t192 t193 t194 w0 _ ?side1 ?side2 A3.out).mono ?_); (case side1 => repeat (first | (with_reducible first | exact HI0.out | apply IsS74.alloc | apply IsS74.drewN | apply IsS74.drew | apply IsS74.set_1 | apply IsS74.set_2 | apply IsS74.set_3 | refine IsS74.far ?_ NB0_187.out _) | exact HI0.out)); (case side2 => repeat (first | (with_reducible first | exact HB.out | apply below_alloc | apply pw_below_drewN | apply below_drew1 | refine below_set ?_ (IsS74.ge HI0.out) | refine below_set ?_ GE187.out) | exact HB.out)); rintro e w8 ⟨rfl, hi, hb, hk⟩; refine ⟨_, rfl, ?_⟩; have n0_ := Aside0.mk (KeepBut.blk hk (g' := gb187) (o := .cells #[.int .i64 0, .bool false, .int .i64 0, .int .u64 0, .string (⟨#[]⟩ : ByteArray)] 33 (0, 0)) (by (with_reducible repeat (first | refine blk_drewN ?_ _ | refine blk_drew ?_ | refine blk_alloc ?_ _)); exact BK187.out) NB187_0.out (by simp)); have n1_ := Aside0.mk (KeepBut.trans (by repeat (first | (with_reducible first | exact HK.out | apply KeepBut.set_ | apply keep_drewN | apply keep_drew | apply keep_alloc | refine keep_far ?_ GW187.out _) | exact HK.out)) hk (.inl rfl)); have n2_ := Aside0.mk (hb); have n3_ := Aside0.mk (hi); clear BK187; clear HK; clear HB; clear HI0; have BK187 := n0_; have HK := n1_; have HB := n2_; have HI0 := n3_; clear n0_ n1_ n2_ n3_; (try clear hb); (try clear hb2); (try clear hk); (try clear hi); obtain ⟨ASz9_0, cSz9_0, HGz9, hgz9, HSz9_0⟩ := HI0.out; have hcz9_0 := cellS74_0 HGz9; have hcz9_1 := cellS74_1 HGz9; have hcz9_2 := cellS74_2 HGz9; have hcz9_3 := cellS74_3 HGz9; have hfz9_1 := blk_frozen HGz9 1; have hfz9_2 := blk_frozen HGz9 2; have hfz9_3 := blk_frozen HGz9 3; clear HGz9 hgz9; have hnb10 := NB187_0.out; have hnc10 := NB0_187.out; have hcz11_0 : w8.cell? ⟨gb187, 0, none⟩ = some (.int .i64 0) := (blk_cell BK187.out 0).trans rfl; have hcz11_1 : w8.cell? ⟨gb187, 1, none⟩ = some (.bool false) := (blk_cell BK187.out 1).trans rfl; have hcz11_2 : w8.cell? ⟨gb187, 2, none⟩ = some (.int .i64 0) := (blk_cell BK187.out 2).trans rfl; have hcz11_3 : w8.cell? ⟨gb187, 3, none⟩ = some (.int .u64 0) := (blk_cell BK187.out 3).trans rfl; have hcz11_4 : w8.cell? ⟨gb187, 4, none⟩ = some (.string (⟨#[]⟩ : ByteArray)) := (blk_cell BK187.out 4).trans rfl; have hfz11_0 := blk_frozen BK187.out 0; have hfz11_1 := blk_frozen BK187.out 1; have hfz11_2 := blk_frozen BK187.out 2; have hfz11_3 := blk_frozen BK187.out 3; have hfz11_4 := blk_frozen BK187.out 4))
    refine bodyPost_ret (results_cell_row rfl _ _ gb187 33 #[.int .i64 0, .bool false, .int .i64 0, .int .u64 0, .string (⟨#[]⟩ : ByteArray)] (0, 0) _ rfl (by (with_reducible repeat (first | refine blk_drewN ?_ _ | refine blk_drew ?_ | refine blk_alloc ?_ _)); refine blk_put (cs := #[.int .i64 0, .bool false, .int .i64 0, .int .u64 0, .string (⟨#[]⟩ : ByteArray)]) ?_ 4 _ rfl; (with_reducible repeat (first | refine blk_drewN ?_ _ | refine blk_drew ?_ | refine blk_alloc ?_ _)); refine blk_put (cs := #[.int .i64 0, .bool false, .int .i64 0, .int .u64 0, .string (⟨#[]⟩ : ByteArray)]) ?_ 3 _ rfl; (with_reducible repeat (first | refine blk_drewN ?_ _ | refine blk_drew ?_ | refine blk_alloc ?_ _)); refine blk_put (cs := #[.int .i64 0, .bool false, .int .i64 0, .int .u64 0, .string (⟨#[]⟩ : ByteArray)]) ?_ 2 _ rfl; (with_reducible repeat (first | refine blk_drewN ?_ _ | refine blk_drew ?_ | refine blk_alloc ?_ _)); refine blk_put (cs := #[.int .i64 0, .bool false, .int .i64 0, .int .u64 0, .string (⟨#[]⟩ : ByteArray)]) ?_ 1 _ rfl; (with_reducible repeat (first | refine blk_drewN ?_ _ | refine blk_drew ?_ | refine blk_alloc ?_ _)); refine blk_put (cs := #[.int .i64 0, .bool false, .int .i64 0, .int .u64 0, .string (⟨#[]⟩ : ByteArray)]) ?_ 0 _ rfl; (with_reducible repeat (first | refine blk_drewN ?_ _ | refine blk_drew ?_ | refine blk_alloc ?_ _)); exact BK187.out) Try.underlying33 rfl (by kernel_rfl)) rfl ?_
    exact ⟨by first | rfl | (simp [errW_none, errW_some] <;> rfl) | (simp [*, errW_none, errW_some] <;> rfl), by repeat (first | (with_reducible first | exact HI0.out | apply IsS74.alloc | apply IsS74.drewN | apply IsS74.drew | apply IsS74.set_1 | apply IsS74.set_2 | apply IsS74.set_3 | refine IsS74.far ?_ NB0_187.out _) | exact HI0.out), by repeat (first | (with_reducible first | exact HB.out | apply below_alloc | apply pw_below_drewN | apply below_drew1 | refine below_set ?_ (IsS74.ge HI0.out) | refine below_set ?_ GE187.out) | exact HB.out), by repeat (first | (with_reducible first | exact HK.out | apply KeepBut.set_ | apply keep_drewN | apply keep_drew | apply keep_alloc | refine keep_far ?_ GW187.out _) | exact HK.out)⟩
  · rw [if_neg c4] at H
    have c4b0 : decide (0 ≤ t194) = false := decide_eq_false c4
    clear c4
    have H' := Aside0.mk H
    clear H
    go_enter Try.func70, Try.ntmps70
    go_wp2_with (first | ((with_reducible refine gate_dst (N := 2) rfl ?_); (try (refine gate_guard (by rfl) ?_; dsimp only)); refine box_event ?hg (N := 2) ?hd (cs := #[.int .i64 0, .bool false, .int .i64 0, .int .u64 0, .string (⟨#[]⟩ : ByteArray)]) (t := 33) ?hr ?_; (case hd => rfl); (case hg => rfl); (case hr => first | (go_simp; done) | (go_simp; rfl)); intro gb187 hg w12 hbox hb; have n0_ := Aside0.mk (IsS74.below (by repeat (first | (with_reducible first | exact HI0.out | apply IsS74.alloc | apply IsS74.drewN | apply IsS74.drew | apply IsS74.set_1 | apply IsS74.set_2 | apply IsS74.set_3) | exact HI0.out)) hb); have n1_ := Aside0.mk (KeepBut.trans (by repeat (first | (with_reducible first | exact HK.out | apply KeepBut.set_ | apply keep_drewN | apply keep_drew | apply keep_alloc) | exact HK.out)) (KeepBut.of_below hb g none) (.inl rfl)); have n2_ := Aside0.mk (below_step (by repeat (first | (with_reducible first | exact HB.out | apply below_alloc | apply pw_below_drewN | apply below_drew1 | refine below_set ?_ (IsS74.ge HI0.out)) | exact HB.out)) hb); have n3_ := Aside0.mk (hbox); have n4_ := Aside0.mk ((by rw [hg]; exact (keep_size (w := w) (g := g) (row := none) (by repeat (first | (with_reducible first | exact HK.out | apply KeepBut.set_ | apply keep_drewN | apply keep_drew | apply keep_alloc) | exact HK.out))) : w.heap.size ≤ gb187)); have n5_ := Aside0.mk ((Nat.le_trans HW0.out (by rw [hg]; exact (keep_size (w := w) (g := g) (row := none) (by repeat (first | (with_reducible first | exact HK.out | apply KeepBut.set_ | apply keep_drewN | apply keep_drew | apply keep_alloc) | exact HK.out))) : w.heap.size ≤ gb187) : w0.heap.size ≤ gb187)); have n6_ := Aside0.mk ((by rw [hg]; exact Nat.ne_of_lt (IsS74.lt (show IsS74 w0 _ g s0_0 s0_1 s0_2 s0_3 from by repeat (first | (with_reducible first | exact HI0.out | apply IsS74.alloc | apply IsS74.drewN | apply IsS74.drew | apply IsS74.set_1 | apply IsS74.set_2 | apply IsS74.set_3) | exact HI0.out))) : g ≠ gb187)); have n7_ := Aside0.mk ((by rw [hg]; exact Nat.ne_of_gt (IsS74.lt (show IsS74 w0 _ g s0_0 s0_1 s0_2 s0_3 from by repeat (first | (with_reducible first | exact HI0.out | apply IsS74.alloc | apply IsS74.drewN | apply IsS74.drew | apply IsS74.set_1 | apply IsS74.set_2 | apply IsS74.set_3) | exact HI0.out))) : gb187 ≠ g)); clear HI0; clear HK; clear HB; have HI0 := n0_; have HK := n1_; have HB := n2_; have BK187 := n3_; have GW187 := n4_; have GE187 := n5_; have NB0_187 := n6_; have NB187_0 := n7_; clear n0_ n1_ n2_ n3_ n4_ n5_ n6_ n7_; clear hb hbox hg) | ((with_reducible refine gate_callee (f := 63) rfl ?_); refine goesL_ (some 9) rfl rfl Try.func63 (by kernel_rfl) rfl #[.pointer (some ⟨g, 0, none⟩), .string (⟨#[40]⟩ : ByteArray)] rfl (by (try simp only [List.map_toArray, List.map_cons, List.map_nil]); first | done | rfl | (simp only [List.length_drop, List.length_take]; rfl)) ?_; (with_reducible refine (say_parser_mark.calls g s0_0 s0_1 s0_2 s0_3 (⟨#[40]⟩ : ByteArray) t188 t189 t190 w0 _ ?side1 ?side2 A2.out).mono ?_); (case side1 => repeat (first | (with_reducible first | exact HI0.out | apply IsS74.alloc | apply IsS74.drewN | apply IsS74.drew | apply IsS74.set_1 | apply IsS74.set_2 | apply IsS74.set_3 | refine IsS74.far ?_ NB0_187.out _) | exact HI0.out)); (case side2 => repeat (first | (with_reducible first | exact HB.out | apply below_alloc | apply pw_below_drewN | apply below_drew1 | refine below_set ?_ (IsS74.ge HI0.out) | refine below_set ?_ GE187.out) | exact HB.out)); rintro e w13 ⟨rfl, hi, hb, hk⟩; refine ⟨_, rfl, ?_⟩; have n0_ := Aside0.mk (KeepBut.blk hk (g' := gb187) (o := .cells #[.int .i64 0, .bool false, .int .i64 0, .int .u64 0, .string (⟨#[]⟩ : ByteArray)] 33 (0, 0)) (by (with_reducible repeat (first | refine blk_drewN ?_ _ | refine blk_drew ?_ | refine blk_alloc ?_ _)); exact BK187.out) NB187_0.out (by simp)); have n1_ := Aside0.mk (KeepBut.trans (by repeat (first | (with_reducible first | exact HK.out | apply KeepBut.set_ | apply keep_drewN | apply keep_drew | apply keep_alloc | refine keep_far ?_ GW187.out _) | exact HK.out)) hk (.inl rfl)); have n2_ := Aside0.mk (hb); have n3_ := Aside0.mk (hi); clear BK187; clear HK; clear HB; clear HI0; have BK187 := n0_; have HK := n1_; have HB := n2_; have HI0 := n3_; clear n0_ n1_ n2_ n3_; (try clear hb); (try clear hb2); (try clear hk); (try clear hi); obtain ⟨ASz14_0, cSz14_0, HGz14, hgz14, HSz14_0⟩ := HI0.out; have hcz14_0 := cellS74_0 HGz14; have hcz14_1 := cellS74_1 HGz14; have hcz14_2 := cellS74_2 HGz14; have hcz14_3 := cellS74_3 HGz14; have hfz14_1 := blk_frozen HGz14 1; have hfz14_2 := blk_frozen HGz14 2; have hfz14_3 := blk_frozen HGz14 3; clear HGz14 hgz14) | ((with_reducible refine gate_callee (f := 61) rfl ?_); refine goesL_ (some 15) rfl rfl Try.func61 (by kernel_rfl) rfl #[.pointer (some ⟨g, 0, none⟩), .int .i64 2] rfl (by (try simp only [List.map_toArray, List.map_cons, List.map_nil]); first | done | rfl | (simp only [List.length_drop, List.length_take]; rfl)) ?_; (with_reducible refine (say_parser_take.calls g s0_0 t188 t189 t190 2 t191 t192 t193 t194 w0 _ ?side1 ?side2 A3.out).mono ?_); (case side1 => repeat (first | (with_reducible first | exact HI0.out | apply IsS74.alloc | apply IsS74.drewN | apply IsS74.drew | apply IsS74.set_1 | apply IsS74.set_2 | apply IsS74.set_3 | refine IsS74.far ?_ NB0_187.out _) | exact HI0.out)); (case side2 => repeat (first | (with_reducible first | exact HB.out | apply below_alloc | apply pw_below_drewN | apply below_drew1 | refine below_set ?_ (IsS74.ge HI0.out) | refine below_set ?_ GE187.out) | exact HB.out)); rintro e w15 ⟨rfl, hi, hb, hk⟩; refine ⟨_, rfl, ?_⟩; have n0_ := Aside0.mk (KeepBut.blk hk (g' := gb187) (o := .cells #[.int .i64 0, .bool false, .int .i64 0, .int .u64 0, .string (⟨#[]⟩ : ByteArray)] 33 (0, 0)) (by (with_reducible repeat (first | refine blk_drewN ?_ _ | refine blk_drew ?_ | refine blk_alloc ?_ _)); exact BK187.out) NB187_0.out (by simp)); have n1_ := Aside0.mk (KeepBut.trans (by repeat (first | (with_reducible first | exact HK.out | apply KeepBut.set_ | apply keep_drewN | apply keep_drew | apply keep_alloc | refine keep_far ?_ GW187.out _) | exact HK.out)) hk (.inl rfl)); have n2_ := Aside0.mk (hb); have n3_ := Aside0.mk (hi); clear BK187; clear HK; clear HB; clear HI0; have BK187 := n0_; have HK := n1_; have HB := n2_; have HI0 := n3_; clear n0_ n1_ n2_ n3_; (try clear hb); (try clear hb2); (try clear hk); (try clear hi); obtain ⟨ASz16_0, cSz16_0, HGz16, hgz16, HSz16_0⟩ := HI0.out; have hcz16_0 := cellS74_0 HGz16; have hcz16_1 := cellS74_1 HGz16; have hcz16_2 := cellS74_2 HGz16; have hcz16_3 := cellS74_3 HGz16; have hfz16_1 := blk_frozen HGz16 1; have hfz16_2 := blk_frozen HGz16 2; have hfz16_3 := blk_frozen HGz16 3; clear HGz16 hgz16) | ((with_reducible refine gate_dst (N := 5) rfl ?_); (try (refine gate_guard (by rfl) ?_; dsimp only)); refine box_event ?hg (N := 5) ?hd (cs := #[.int .i64 0, .bool false, .int .i64 0, .int .u64 0, .string (⟨#[]⟩ : ByteArray)]) (t := 33) ?hr ?_; (case hd => rfl); (case hg => rfl); (case hr => first | (go_simp; done) | (go_simp; rfl)); intro gb195 hg w17 hbox hb; have n0_ := Aside0.mk (IsS74.below (by repeat (first | (with_reducible first | exact HI0.out | apply IsS74.alloc | apply IsS74.drewN | apply IsS74.drew | apply IsS74.set_1 | apply IsS74.set_2 | apply IsS74.set_3 | refine IsS74.far ?_ NB0_187.out _) | exact HI0.out)) hb); have n1_ := Aside0.mk (blk_below (g := gb187) (o := .cells #[.int .i64 0, .bool false, .int .i64 0, .int .u64 0, .string (⟨#[]⟩ : ByteArray)] 33 (0, 0)) (by (with_reducible repeat (first | refine blk_drewN ?_ _ | refine blk_drew ?_ | refine blk_alloc ?_ _)); exact BK187.out) hb); have n2_ := Aside0.mk (KeepBut.trans (by repeat (first | (with_reducible first | exact HK.out | apply KeepBut.set_ | apply keep_drewN | apply keep_drew | apply keep_alloc | refine keep_far ?_ GW187.out _) | exact HK.out)) (KeepBut.of_below hb g none) (.inl rfl)); have n3_ := Aside0.mk (below_step (by repeat (first | (with_reducible first | exact HB.out | apply below_alloc | apply pw_below_drewN | apply below_drew1 | refine below_set ?_ (IsS74.ge HI0.out) | refine below_set ?_ GE187.out) | exact HB.out)) hb); have n4_ := Aside0.mk (hbox); have n5_ := Aside0.mk ((by rw [hg]; exact (keep_size (w := w) (g := g) (row := none) (by repeat (first | (with_reducible first | exact HK.out | apply KeepBut.set_ | apply keep_drewN | apply keep_drew | apply keep_alloc | refine keep_far ?_ GW187.out _) | exact HK.out))) : w.heap.size ≤ gb195)); have n6_ := Aside0.mk ((Nat.le_trans HW0.out (by rw [hg]; exact (keep_size (w := w) (g := g) (row := none) (by repeat (first | (with_reducible first | exact HK.out | apply KeepBut.set_ | apply keep_drewN | apply keep_drew | apply keep_alloc | refine keep_far ?_ GW187.out _) | exact HK.out))) : w.heap.size ≤ gb195) : w0.heap.size ≤ gb195)); have n7_ := Aside0.mk ((by rw [hg]; exact Nat.ne_of_lt (blk_lt (g := gb187) (o := .cells #[.int .i64 0, .bool false, .int .i64 0, .int .u64 0, .string (⟨#[]⟩ : ByteArray)] 33 (0, 0)) (by (with_reducible repeat (first | refine blk_drewN ?_ _ | refine blk_drew ?_ | refine blk_alloc ?_ _)); exact BK187.out)) : gb187 ≠ gb195)); have n8_ := Aside0.mk ((by rw [hg]; exact Nat.ne_of_gt (blk_lt (g := gb187) (o := .cells #[.int .i64 0, .bool false, .int .i64 0, .int .u64 0, .string (⟨#[]⟩ : ByteArray)] 33 (0, 0)) (by (with_reducible repeat (first | refine blk_drewN ?_ _ | refine blk_drew ?_ | refine blk_alloc ?_ _)); exact BK187.out)) : gb195 ≠ gb187)); have n9_ := Aside0.mk ((by rw [hg]; exact Nat.ne_of_lt (IsS74.lt (show IsS74 w0 _ g s0_0 t192 t193 t194 from by repeat (first | (with_reducible first | exact HI0.out | apply IsS74.alloc | apply IsS74.drewN | apply IsS74.drew | apply IsS74.set_1 | apply IsS74.set_2 | apply IsS74.set_3 | refine IsS74.far ?_ NB0_187.out _) | exact HI0.out))) : g ≠ gb195)); have n10_ := Aside0.mk ((by rw [hg]; exact Nat.ne_of_gt (IsS74.lt (show IsS74 w0 _ g s0_0 t192 t193 t194 from by repeat (first | (with_reducible first | exact HI0.out | apply IsS74.alloc | apply IsS74.drewN | apply IsS74.drew | apply IsS74.set_1 | apply IsS74.set_2 | apply IsS74.set_3 | refine IsS74.far ?_ NB0_187.out _) | exact HI0.out))) : gb195 ≠ g)); clear HI0; clear BK187; clear HK; clear HB; have HI0 := n0_; have BK187 := n1_; have HK := n2_; have HB := n3_; have BK195 := n4_; have GW195 := n5_; have GE195 := n6_; have NB187_195 := n7_; have NB195_187 := n8_; have NB0_195 := n9_; have NB195_0 := n10_; clear n0_ n1_ n2_ n3_ n4_ n5_ n6_ n7_ n8_ n9_ n10_; clear hb hbox hg; have hnb18 := NB195_187.out; have hnc18 := NB187_195.out; have hnb19 := NB195_0.out; have hnc19 := NB0_195.out; have hcz20_0 : w17.cell? ⟨gb195, 0, none⟩ = some (.int .i64 0) := (blk_cell BK195.out 0).trans rfl; have hcz20_1 : w17.cell? ⟨gb195, 1, none⟩ = some (.bool false) := (blk_cell BK195.out 1).trans rfl; have hcz20_2 : w17.cell? ⟨gb195, 2, none⟩ = some (.int .i64 0) := (blk_cell BK195.out 2).trans rfl; have hcz20_3 : w17.cell? ⟨gb195, 3, none⟩ = some (.int .u64 0) := (blk_cell BK195.out 3).trans rfl; have hcz20_4 : w17.cell? ⟨gb195, 4, none⟩ = some (.string (⟨#[]⟩ : ByteArray)) := (blk_cell BK195.out 4).trans rfl; have hfz20_0 := blk_frozen BK195.out 0; have hfz20_1 := blk_frozen BK195.out 1; have hfz20_2 := blk_frozen BK195.out 2; have hfz20_3 := blk_frozen BK195.out 3; have hfz20_4 := blk_frozen BK195.out 4))
    go_loopg [25] k (fun kq v25 w' => ∃ (x25_1 : Int) (x1001_1 : Int) (x1002_1 : Int) (x1003_1 : Int) (x188000_1 : Int) (x188001_1 : Bool) (x188002_1 : Int) (x188003_1 : Int) (x188004_1 : ByteArray) (x196003_1 : Int), v25 = .int .i64 x25_1 ∧ Aside0 (say_parser_float.l0 kq t188 t191 (t191.size : Int) x25_1 s0_0 x1001_1 x1002_1 x1003_1 3 false 0 x196003_1 (⟨#[]⟩ : ByteArray) = some (r1, r2, r3, r4, r5, r6, r7, r8)) ∧ Aside0 (kq ≤ k) ∧ Aside0 (w'.heap[gb187]? = some (.cells #[.int .i64 x188000_1, .bool x188001_1, .int .i64 x188002_1, .int .u64 x188003_1, .string x188004_1] 33 (0, 0))) ∧ Aside0 (w'.heap[gb195]? = some (.cells #[.int .i64 3, .bool false, .int .i64 0, .int .u64 x196003_1, .string (⟨#[]⟩ : ByteArray)] 33 (0, 0))) ∧ Aside0 (IsS74 w0 w' g s0_0 x1001_1 x1002_1 x1003_1) ∧ Aside0 (KeepBut w w' g none) ∧ Aside0 (Below w0.heap.size w0 w'))
    case atStart => exact ⟨(0), (t192), (t193), (t194), (0), (false), (0), (0), ((⟨#[]⟩ : ByteArray)), (0), (by first | rfl | (simp; done) | (simp [*]; done)), H', ⟨Nat.le_refl _⟩, ⟨by (with_reducible repeat (first | refine blk_drewN ?_ _ | refine blk_drew ?_ | refine blk_alloc ?_ _)); refine blk_far ?_ NB187_195.out _; (with_reducible repeat (first | refine blk_drewN ?_ _ | refine blk_drew ?_ | refine blk_alloc ?_ _)); refine blk_far ?_ NB187_195.out _; (with_reducible repeat (first | refine blk_drewN ?_ _ | refine blk_drew ?_ | refine blk_alloc ?_ _)); refine blk_far ?_ NB187_195.out _; (with_reducible repeat (first | refine blk_drewN ?_ _ | refine blk_drew ?_ | refine blk_alloc ?_ _)); refine blk_far ?_ NB187_195.out _; (with_reducible repeat (first | refine blk_drewN ?_ _ | refine blk_drew ?_ | refine blk_alloc ?_ _)); refine blk_far ?_ NB187_195.out _; (with_reducible repeat (first | refine blk_drewN ?_ _ | refine blk_drew ?_ | refine blk_alloc ?_ _)); exact BK187.out⟩, ⟨by (with_reducible repeat (first | refine blk_drewN ?_ _ | refine blk_drew ?_ | refine blk_alloc ?_ _)); refine blk_put (cs := #[.int .i64 3, .bool false, .int .i64 0, .int .u64 0, .string (⟨#[]⟩ : ByteArray)]) ?_ 4 _ rfl; (with_reducible repeat (first | refine blk_drewN ?_ _ | refine blk_drew ?_ | refine blk_alloc ?_ _)); refine blk_put (cs := #[.int .i64 3, .bool false, .int .i64 0, .int .u64 0, .string (⟨#[]⟩ : ByteArray)]) ?_ 3 _ rfl; (with_reducible repeat (first | refine blk_drewN ?_ _ | refine blk_drew ?_ | refine blk_alloc ?_ _)); refine blk_put (cs := #[.int .i64 3, .bool false, .int .i64 0, .int .u64 0, .string (⟨#[]⟩ : ByteArray)]) ?_ 2 _ rfl; (with_reducible repeat (first | refine blk_drewN ?_ _ | refine blk_drew ?_ | refine blk_alloc ?_ _)); refine blk_put (cs := #[.int .i64 3, .bool false, .int .i64 0, .int .u64 0, .string (⟨#[]⟩ : ByteArray)]) ?_ 1 _ rfl; (with_reducible repeat (first | refine blk_drewN ?_ _ | refine blk_drew ?_ | refine blk_alloc ?_ _)); refine blk_put (cs := #[.int .i64 0, .bool false, .int .i64 0, .int .u64 0, .string (⟨#[]⟩ : ByteArray)]) ?_ 0 _ rfl; (with_reducible repeat (first | refine blk_drewN ?_ _ | refine blk_drew ?_ | refine blk_alloc ?_ _)); exact BK195.out⟩, ⟨by repeat (first | (with_reducible first | exact HI0.out | apply IsS74.alloc | apply IsS74.drewN | apply IsS74.drew | apply IsS74.set_1 | apply IsS74.set_2 | apply IsS74.set_3 | refine IsS74.far ?_ NB0_187.out _ | refine IsS74.far ?_ NB0_195.out _) | exact HI0.out)⟩, ⟨by repeat (first | (with_reducible first | exact HK.out | apply KeepBut.set_ | apply keep_drewN | apply keep_drew | apply keep_alloc | refine keep_far ?_ GW187.out _ | refine keep_far ?_ GW195.out _) | exact HK.out)⟩, ⟨by repeat (first | (with_reducible first | exact HB.out | apply below_alloc | apply pw_below_drewN | apply below_drew1 | refine below_set ?_ (IsS74.ge HI0.out) | refine below_set ?_ GE187.out | refine below_set ?_ GE195.out) | exact HB.out)⟩⟩
    case round =>
      clear H'
      try clear c1
      try clear p2
      try clear c4
      try clear c4b0
      try clear c6
      try clear c7
      try clear c10
      try clear c18
      try clear c19
      try clear hcz11_0
      try clear hcz11_1
      try clear hcz11_2
      try clear hcz11_3
      try clear hcz11_4
      try clear hcz14_0
      try clear hcz14_1
      try clear hcz14_2
      try clear hcz14_3
      try clear hcz16_0
      try clear hcz16_1
      try clear hcz16_2
      try clear hcz16_3
      try clear hcz20_0
      try clear hcz20_1
      try clear hcz20_2
      try clear hcz20_3
      try clear hcz20_4
      try clear hcz7_0
      try clear hcz7_1
      try clear hcz7_2
      try clear hcz7_3
      try clear hcz9_0
      try clear hcz9_1
      try clear hcz9_2
      try clear hcz9_3
      try clear hfz11_0
      try clear hfz11_1
      try clear hfz11_2
      try clear hfz11_3
      try clear hfz11_4
      try clear hfz14_1
      try clear hfz14_2
      try clear hfz14_3
      try clear hfz16_1
      try clear hfz16_2
      try clear hfz16_3
      try clear hfz20_0
      try clear hfz20_1
      try clear hfz20_2
      try clear hfz20_3
      try clear hfz20_4
      try clear hfz7_1
      try clear hfz7_2
      try clear hfz7_3
      try clear hfz9_1
      try clear hfz9_2
      try clear hfz9_3
      obtain ⟨x25_1, x1001_1, x1002_1, x1003_1, x188000_1, x188001_1, x188002_1, x188003_1, x188004_1, x196003_1, rfl, HA, HK1, BK187, BK195, HI0, HK, HB⟩ := hrel
      cases gk with
      | zero => exact absurd HA.out (by simp [say_parser_float.l0])
      | succ k1 =>
        have H := HA.out
        clear HA
        simp only [say_parser_float.l0] at H
        by_cases c21 : x25_1 < (t191.size : Int)
        · rw [if_pos c21] at H
          have c21b0 : decide (x25_1 < (t191.size : Int)) = true := decide_eq_true c21
          clear c21
          by_cases c22 : 0 ≤ x25_1
          · rw [if_pos c22] at H
            have c22b0 : decide (0 ≤ x25_1) = true := decide_eq_true c22
            clear c22
            by_cases c23 : x25_1 < (t191.size : Int)
            · rw [if_pos c23] at H
              have c23b0 : decide (x25_1 < (t191.size : Int)) = true := decide_eq_true c23
              clear c23
              replace H := Option.bind_eq_some_iff.mp H
              obtain ⟨t196, A250, H⟩ := H
              replace H : (if t196 < 0 then ((say_parser_fail.f s0_0 t188 x1002_1 x1003_1).bind fun bt197 => (some (0, false, 0, 0, (⟨#[]⟩ : ByteArray), bt197.1, bt197.2.1, bt197.2.2))) else (if (t191.size : Int) = 16 then (say_parser_float.l0 k1 t188 t191 (t191.size : Int) (wrap64 (x25_1 + 1)) s0_0 x1001_1 x1002_1 x1003_1 3 false 0 (Go.bits .or .u64 (IntKind.u64.wrap (x196003_1 * 16)) (IntKind.u64.wrap (t196))) (⟨#[]⟩ : ByteArray)) else ((say_parser_fail.f s0_0 t188 x1002_1 x1003_1).bind fun bt200 => (some (0, false, 0, 0, (⟨#[]⟩ : ByteArray), bt200.1, bt200.2.1, bt200.2.2))))) = some (r1, r2, r3, r4, r5, r6, r7, r8) := H
              have A25 := Aside0.mk A250
              clear A250
              by_cases c26 : t196 < 0
              · rw [if_pos c26] at H
                have c26b0 : decide (t196 < 0) = true := decide_eq_true c26
                clear c26
                replace H := Option.bind_eq_some_iff.mp H
                obtain ⟨⟨t197, t198, t199⟩, A270, H⟩ := H
                replace H : (some (0, false, 0, 0, (⟨#[]⟩ : ByteArray), t197, t198, t199)) = some (r1, r2, r3, r4, r5, r6, r7, r8) := H
                have A27 := Aside0.mk A270
                clear A270
                simp only [Option.some.injEq, Prod.mk.injEq] at H
                obtain ⟨rfl, rfl, rfl, rfl, rfl, rfl, rfl, rfl⟩ := H
                have p24 : 0 ≤ (x25_1 : Int) := of_decide_eq_true (by first | (with_reducible assumption) | assumption)
                have q24 : x25_1 < (t191.size : Int) := of_decide_eq_true (by first | (with_reducible assumption) | assumption)
                have hx24 := bt_at t191 x25_1
                replace p24 := eq_true p24
                replace q24 := eq_true q24
                go_wp2_with (first | ((with_reducible refine gate_callee (f := 77) rfl ?_); refine goesL_ (some 31) rfl rfl Try.func77 (by kernel_rfl) rfl #[.int .u8 (bt t191 x25_1)] rfl (by (try simp only [List.map_toArray, List.map_cons, List.map_nil]); first | done | rfl | (simp only [List.length_drop, List.length_take]; rfl)) ?_; (with_reducible refine (say_nibble.calls (bt t191 x25_1) t196 _ A25.out).mono ?_); rintro e w' ⟨rfl, ⟨nd, rfl⟩⟩; refine ⟨_, rfl, ?_⟩; (try (rw [drewN_self wr]; generalize hq_ : World.drewN wr _ = wr; have n0_ : Aside0 (wr.heap[gb187]? = some (.cells #[.int .i64 x188000_1, .bool x188001_1, .int .i64 x188002_1, .int .u64 x188003_1, .string x188004_1] 33 (0, 0))) := ⟨by rw [← hq_]; exact (by (with_reducible repeat (first | refine blk_drewN ?_ _ | refine blk_drew ?_ | refine blk_alloc ?_ _)); exact BK187.out)⟩; have n1_ : Aside0 (wr.heap[gb195]? = some (.cells #[.int .i64 3, .bool false, .int .i64 0, .int .u64 x196003_1, .string (⟨#[]⟩ : ByteArray)] 33 (0, 0))) := ⟨by rw [← hq_]; exact (by (with_reducible repeat (first | refine blk_drewN ?_ _ | refine blk_drew ?_ | refine blk_alloc ?_ _)); exact BK195.out)⟩; have n2_ : Aside0 (IsS74 w0 wr g s0_0 x1001_1 x1002_1 x1003_1) := ⟨by rw [← hq_]; exact (by repeat (first | (with_reducible first | exact HI0.out | apply IsS74.alloc | apply IsS74.drewN | apply IsS74.drew | apply IsS74.set_1 | apply IsS74.set_2 | apply IsS74.set_3 | refine IsS74.far ?_ NB0_187.out _ | refine IsS74.far ?_ NB0_195.out _) | exact HI0.out))⟩; have n3_ : Aside0 (KeepBut w wr g none) := ⟨by rw [← hq_]; exact (by repeat (first | (with_reducible first | exact HK.out | apply KeepBut.set_ | apply keep_drewN | apply keep_drew | apply keep_alloc | refine keep_far ?_ GW187.out _ | refine keep_far ?_ GW195.out _) | exact HK.out))⟩; have n4_ : Aside0 (Below w0.heap.size w0 wr) := ⟨by rw [← hq_]; exact (by repeat (first | (with_reducible first | exact HB.out | apply below_alloc | apply pw_below_drewN | apply below_drew1 | refine below_set ?_ (IsS74.ge HI0.out) | refine below_set ?_ GE187.out | refine below_set ?_ GE195.out) | exact HB.out))⟩; clear BK187 BK195 HI0 HK HB hq_; have BK187 := n0_; have BK195 := n1_; have HI0 := n2_; have HK := n3_; have HB := n4_; clear n0_ n1_ n2_ n3_ n4_)); obtain ⟨ASz28_0, cSz28_0, HGz28, hgz28, HSz28_0⟩ := HI0.out; have hcz28_0 := cellS74_0 HGz28; have hcz28_1 := cellS74_1 HGz28; have hcz28_2 := cellS74_2 HGz28; have hcz28_3 := cellS74_3 HGz28; have hfz28_1 := blk_frozen HGz28 1; have hfz28_2 := blk_frozen HGz28 2; have hfz28_3 := blk_frozen HGz28 3; clear HGz28 hgz28) | ((with_reducible refine gate_callee (f := 55) rfl ?_); refine goesL_ (some 44) rfl rfl Try.func55 (by kernel_rfl) rfl #[.pointer (some ⟨g, 0, none⟩)] rfl (by (try simp only [List.map_toArray, List.map_cons, List.map_nil]); first | done | rfl | (simp only [List.length_drop, List.length_take]; rfl)) ?_; (with_reducible refine (say_parser_fail.calls g s0_0 t188 x1002_1 x1003_1 t197 t198 t199 w0 _ ?side1 ?side2 A27.out).mono ?_); (case side1 => repeat (first | (with_reducible first | exact HI0.out | apply IsS74.alloc | apply IsS74.drewN | apply IsS74.drew | apply IsS74.set_1 | apply IsS74.set_2 | apply IsS74.set_3 | refine IsS74.far ?_ NB0_187.out _ | refine IsS74.far ?_ NB0_195.out _) | exact HI0.out)); (case side2 => repeat (first | (with_reducible first | exact HB.out | apply below_alloc | apply pw_below_drewN | apply below_drew1 | refine below_set ?_ (IsS74.ge HI0.out) | refine below_set ?_ GE187.out | refine below_set ?_ GE195.out) | exact HB.out)); rintro e w29 ⟨rfl, hi, hb, hk⟩; refine ⟨_, rfl, ?_⟩; have n0_ := Aside0.mk (KeepBut.blk hk (g' := gb187) (o := .cells #[.int .i64 x188000_1, .bool x188001_1, .int .i64 x188002_1, .int .u64 x188003_1, .string x188004_1] 33 (0, 0)) (by (with_reducible repeat (first | refine blk_drewN ?_ _ | refine blk_drew ?_ | refine blk_alloc ?_ _)); refine blk_far ?_ NB187_0.out _; (with_reducible repeat (first | refine blk_drewN ?_ _ | refine blk_drew ?_ | refine blk_alloc ?_ _)); exact BK187.out) NB187_0.out (by simp)); have n1_ := Aside0.mk (KeepBut.blk hk (g' := gb195) (o := .cells #[.int .i64 3, .bool false, .int .i64 0, .int .u64 x196003_1, .string (⟨#[]⟩ : ByteArray)] 33 (0, 0)) (by (with_reducible repeat (first | refine blk_drewN ?_ _ | refine blk_drew ?_ | refine blk_alloc ?_ _)); refine blk_far ?_ NB195_0.out _; (with_reducible repeat (first | refine blk_drewN ?_ _ | refine blk_drew ?_ | refine blk_alloc ?_ _)); exact BK195.out) NB195_0.out (by simp)); have n2_ := Aside0.mk (KeepBut.trans (by repeat (first | (with_reducible first | exact HK.out | apply KeepBut.set_ | apply keep_drewN | apply keep_drew | apply keep_alloc | refine keep_far ?_ GW187.out _ | refine keep_far ?_ GW195.out _) | exact HK.out)) hk (.inl rfl)); have n3_ := Aside0.mk (hb); have n4_ := Aside0.mk (hi); clear BK187; clear BK195; clear HK; clear HB; clear HI0; have BK187 := n0_; have BK195 := n1_; have HK := n2_; have HB := n3_; have HI0 := n4_; clear n0_ n1_ n2_ n3_ n4_; (try clear hb); (try clear hb2); (try clear hk); (try clear hi); have hnb30 := NB187_195.out; have hnc30 := NB195_187.out; have hnb31 := NB187_0.out; have hnc31 := NB0_187.out; have hcz32_0 : w29.cell? ⟨gb187, 0, none⟩ = some (.int .i64 x188000_1) := (blk_cell BK187.out 0).trans rfl; have hcz32_1 : w29.cell? ⟨gb187, 1, none⟩ = some (.bool x188001_1) := (blk_cell BK187.out 1).trans rfl; have hcz32_2 : w29.cell? ⟨gb187, 2, none⟩ = some (.int .i64 x188002_1) := (blk_cell BK187.out 2).trans rfl; have hcz32_3 : w29.cell? ⟨gb187, 3, none⟩ = some (.int .u64 x188003_1) := (blk_cell BK187.out 3).trans rfl; have hcz32_4 : w29.cell? ⟨gb187, 4, none⟩ = some (.string x188004_1) := (blk_cell BK187.out 4).trans rfl; have hfz32_0 := blk_frozen BK187.out 0; have hfz32_1 := blk_frozen BK187.out 1; have hfz32_2 := blk_frozen BK187.out 2; have hfz32_3 := blk_frozen BK187.out 3; have hfz32_4 := blk_frozen BK187.out 4))
                refine bodyPost_ret (results_cell_row rfl _ _ gb187 33 #[.int .i64 0, .bool false, .int .i64 0, .int .u64 0, .string (⟨#[]⟩ : ByteArray)] (0, 0) _ rfl (by (with_reducible repeat (first | refine blk_drewN ?_ _ | refine blk_drew ?_ | refine blk_alloc ?_ _)); refine blk_put (cs := #[.int .i64 0, .bool false, .int .i64 0, .int .u64 0, .string x188004_1]) ?_ 4 _ rfl; (with_reducible repeat (first | refine blk_drewN ?_ _ | refine blk_drew ?_ | refine blk_alloc ?_ _)); refine blk_put (cs := #[.int .i64 0, .bool false, .int .i64 0, .int .u64 x188003_1, .string x188004_1]) ?_ 3 _ rfl; (with_reducible repeat (first | refine blk_drewN ?_ _ | refine blk_drew ?_ | refine blk_alloc ?_ _)); refine blk_put (cs := #[.int .i64 0, .bool false, .int .i64 x188002_1, .int .u64 x188003_1, .string x188004_1]) ?_ 2 _ rfl; (with_reducible repeat (first | refine blk_drewN ?_ _ | refine blk_drew ?_ | refine blk_alloc ?_ _)); refine blk_put (cs := #[.int .i64 0, .bool x188001_1, .int .i64 x188002_1, .int .u64 x188003_1, .string x188004_1]) ?_ 1 _ rfl; (with_reducible repeat (first | refine blk_drewN ?_ _ | refine blk_drew ?_ | refine blk_alloc ?_ _)); refine blk_put (cs := #[.int .i64 x188000_1, .bool x188001_1, .int .i64 x188002_1, .int .u64 x188003_1, .string x188004_1]) ?_ 0 _ rfl; (with_reducible repeat (first | refine blk_drewN ?_ _ | refine blk_drew ?_ | refine blk_alloc ?_ _)); exact BK187.out) Try.underlying33 rfl (by kernel_rfl)) rfl ?_
                exact ⟨by first | rfl | (simp [errW_none, errW_some] <;> rfl) | (simp [*, errW_none, errW_some] <;> rfl), by repeat (first | (with_reducible first | exact HI0.out | apply IsS74.alloc | apply IsS74.drewN | apply IsS74.drew | apply IsS74.set_1 | apply IsS74.set_2 | apply IsS74.set_3 | refine IsS74.far ?_ NB0_187.out _ | refine IsS74.far ?_ NB0_195.out _) | exact HI0.out), by repeat (first | (with_reducible first | exact HB.out | apply below_alloc | apply pw_below_drewN | apply below_drew1 | refine below_set ?_ (IsS74.ge HI0.out) | refine below_set ?_ GE187.out | refine below_set ?_ GE195.out) | exact HB.out), by repeat (first | (with_reducible first | exact HK.out | apply KeepBut.set_ | apply keep_drewN | apply keep_drew | apply keep_alloc | refine keep_far ?_ GW187.out _ | refine keep_far ?_ GW195.out _) | exact HK.out)⟩
              · rw [if_neg c26] at H
                have c26b0 : decide (t196 < 0) = false := decide_eq_false c26
                clear c26
                by_cases c33 : (t191.size : Int) = 16
                · rw [if_pos c33] at H
                  have c33b0 : ((t191.size : Int) == 16) = true := beq_iff_eq.mpr c33
                  have c33b1 : ((t191.size : Int) != 16) = false := bne_eq_false_iff_eq.mpr c33
                  clear c33
                  have H' := Aside0.mk H
                  clear H
                  have p24 : 0 ≤ (x25_1 : Int) := of_decide_eq_true (by first | (with_reducible assumption) | assumption)
                  have q24 : x25_1 < (t191.size : Int) := of_decide_eq_true (by first | (with_reducible assumption) | assumption)
                  have hx24 := bt_at t191 x25_1
                  replace p24 := eq_true p24
                  replace q24 := eq_true q24
                  go_wp2_with (first | ((with_reducible refine gate_callee (f := 77) rfl ?_); refine goesL_ (some 31) rfl rfl Try.func77 (by kernel_rfl) rfl #[.int .u8 (bt t191 x25_1)] rfl (by (try simp only [List.map_toArray, List.map_cons, List.map_nil]); first | done | rfl | (simp only [List.length_drop, List.length_take]; rfl)) ?_; (with_reducible refine (say_nibble.calls (bt t191 x25_1) t196 _ A25.out).mono ?_); rintro e w' ⟨rfl, ⟨nd, rfl⟩⟩; refine ⟨_, rfl, ?_⟩; (try (rw [drewN_self wr]; generalize hq_ : World.drewN wr _ = wr; have n0_ : Aside0 (wr.heap[gb187]? = some (.cells #[.int .i64 x188000_1, .bool x188001_1, .int .i64 x188002_1, .int .u64 x188003_1, .string x188004_1] 33 (0, 0))) := ⟨by rw [← hq_]; exact (by (with_reducible repeat (first | refine blk_drewN ?_ _ | refine blk_drew ?_ | refine blk_alloc ?_ _)); exact BK187.out)⟩; have n1_ : Aside0 (wr.heap[gb195]? = some (.cells #[.int .i64 3, .bool false, .int .i64 0, .int .u64 x196003_1, .string (⟨#[]⟩ : ByteArray)] 33 (0, 0))) := ⟨by rw [← hq_]; exact (by (with_reducible repeat (first | refine blk_drewN ?_ _ | refine blk_drew ?_ | refine blk_alloc ?_ _)); exact BK195.out)⟩; have n2_ : Aside0 (IsS74 w0 wr g s0_0 x1001_1 x1002_1 x1003_1) := ⟨by rw [← hq_]; exact (by repeat (first | (with_reducible first | exact HI0.out | apply IsS74.alloc | apply IsS74.drewN | apply IsS74.drew | apply IsS74.set_1 | apply IsS74.set_2 | apply IsS74.set_3 | refine IsS74.far ?_ NB0_187.out _ | refine IsS74.far ?_ NB0_195.out _) | exact HI0.out))⟩; have n3_ : Aside0 (KeepBut w wr g none) := ⟨by rw [← hq_]; exact (by repeat (first | (with_reducible first | exact HK.out | apply KeepBut.set_ | apply keep_drewN | apply keep_drew | apply keep_alloc | refine keep_far ?_ GW187.out _ | refine keep_far ?_ GW195.out _) | exact HK.out))⟩; have n4_ : Aside0 (Below w0.heap.size w0 wr) := ⟨by rw [← hq_]; exact (by repeat (first | (with_reducible first | exact HB.out | apply below_alloc | apply pw_below_drewN | apply below_drew1 | refine below_set ?_ (IsS74.ge HI0.out) | refine below_set ?_ GE187.out | refine below_set ?_ GE195.out) | exact HB.out))⟩; clear BK187 BK195 HI0 HK HB hq_; have BK187 := n0_; have BK195 := n1_; have HI0 := n2_; have HK := n3_; have HB := n4_; clear n0_ n1_ n2_ n3_ n4_)); have hnb34 := NB195_187.out; have hnc34 := NB187_195.out; have hnb35 := NB195_0.out; have hnc35 := NB0_195.out; have hcz36_0 : wr.cell? ⟨gb195, 0, none⟩ = some (.int .i64 3) := (blk_cell BK195.out 0).trans rfl; have hcz36_1 : wr.cell? ⟨gb195, 1, none⟩ = some (.bool false) := (blk_cell BK195.out 1).trans rfl; have hcz36_2 : wr.cell? ⟨gb195, 2, none⟩ = some (.int .i64 0) := (blk_cell BK195.out 2).trans rfl; have hcz36_3 : wr.cell? ⟨gb195, 3, none⟩ = some (.int .u64 x196003_1) := (blk_cell BK195.out 3).trans rfl; have hcz36_4 : wr.cell? ⟨gb195, 4, none⟩ = some (.string (⟨#[]⟩ : ByteArray)) := (blk_cell BK195.out 4).trans rfl; have hfz36_0 := blk_frozen BK195.out 0; have hfz36_1 := blk_frozen BK195.out 1; have hfz36_2 := blk_frozen BK195.out 2; have hfz36_3 := blk_frozen BK195.out 3; have hfz36_4 := blk_frozen BK195.out 4))
                  go_roundg k1
                  case measure => have := HK1.out; omega
                  case rel => exact ⟨(wrap64 (x25_1 + 1)), (x1001_1), (x1002_1), (x1003_1), (x188000_1), (x188001_1), (x188002_1), (x188003_1), (x188004_1), (Go.bits .or .u64 (IntKind.u64.wrap (x196003_1 * 16)) (IntKind.u64.wrap (t196))), (by first | rfl | (simp; done) | (simp [*]; done)), H', ⟨by have := HK1.out; omega⟩, ⟨by (with_reducible repeat (first | refine blk_drewN ?_ _ | refine blk_drew ?_ | refine blk_alloc ?_ _)); refine blk_far ?_ NB187_195.out _; (with_reducible repeat (first | refine blk_drewN ?_ _ | refine blk_drew ?_ | refine blk_alloc ?_ _)); exact BK187.out⟩, ⟨by (with_reducible repeat (first | refine blk_drewN ?_ _ | refine blk_drew ?_ | refine blk_alloc ?_ _)); refine blk_put (cs := #[.int .i64 3, .bool false, .int .i64 0, .int .u64 x196003_1, .string (⟨#[]⟩ : ByteArray)]) ?_ 3 _ rfl; (with_reducible repeat (first | refine blk_drewN ?_ _ | refine blk_drew ?_ | refine blk_alloc ?_ _)); exact BK195.out⟩, ⟨by repeat (first | (with_reducible first | exact HI0.out | apply IsS74.alloc | apply IsS74.drewN | apply IsS74.drew | apply IsS74.set_1 | apply IsS74.set_2 | apply IsS74.set_3 | refine IsS74.far ?_ NB0_187.out _ | refine IsS74.far ?_ NB0_195.out _) | exact HI0.out)⟩, ⟨by repeat (first | (with_reducible first | exact HK.out | apply KeepBut.set_ | apply keep_drewN | apply keep_drew | apply keep_alloc | refine keep_far ?_ GW187.out _ | refine keep_far ?_ GW195.out _) | exact HK.out)⟩, ⟨by repeat (first | (with_reducible first | exact HB.out | apply below_alloc | apply pw_below_drewN | apply below_drew1 | refine below_set ?_ (IsS74.ge HI0.out) | refine below_set ?_ GE187.out | refine below_set ?_ GE195.out) | exact HB.out)⟩⟩
                · rw [if_neg c33] at H
                  have c33b0 : ((t191.size : Int) == 16) = false := beq_eq_false_iff_ne.mpr c33
                  have c33b1 : ((t191.size : Int) != 16) = true := bne_iff_ne.mpr c33
                  replace H := Option.bind_eq_some_iff.mp H
                  obtain ⟨⟨t200, t201, t202⟩, A370, H⟩ := H
                  replace H : (some (0, false, 0, 0, (⟨#[]⟩ : ByteArray), t200, t201, t202)) = some (r1, r2, r3, r4, r5, r6, r7, r8) := H
                  have A37 := Aside0.mk A370
                  clear A370
                  simp only [Option.some.injEq, Prod.mk.injEq] at H
                  obtain ⟨rfl, rfl, rfl, rfl, rfl, rfl, rfl, rfl⟩ := H
                  have p24 : 0 ≤ (x25_1 : Int) := of_decide_eq_true (by first | (with_reducible assumption) | assumption)
                  have q24 : x25_1 < (t191.size : Int) := of_decide_eq_true (by first | (with_reducible assumption) | assumption)
                  have hx24 := bt_at t191 x25_1
                  replace p24 := eq_true p24
                  replace q24 := eq_true q24
                  go_wp2_with (first | ((with_reducible refine gate_callee (f := 77) rfl ?_); refine goesL_ (some 31) rfl rfl Try.func77 (by kernel_rfl) rfl #[.int .u8 (bt t191 x25_1)] rfl (by (try simp only [List.map_toArray, List.map_cons, List.map_nil]); first | done | rfl | (simp only [List.length_drop, List.length_take]; rfl)) ?_; (with_reducible refine (say_nibble.calls (bt t191 x25_1) t196 _ A25.out).mono ?_); rintro e w' ⟨rfl, ⟨nd, rfl⟩⟩; refine ⟨_, rfl, ?_⟩; (try (rw [drewN_self wr]; generalize hq_ : World.drewN wr _ = wr; have n0_ : Aside0 (wr.heap[gb187]? = some (.cells #[.int .i64 x188000_1, .bool x188001_1, .int .i64 x188002_1, .int .u64 x188003_1, .string x188004_1] 33 (0, 0))) := ⟨by rw [← hq_]; exact (by (with_reducible repeat (first | refine blk_drewN ?_ _ | refine blk_drew ?_ | refine blk_alloc ?_ _)); exact BK187.out)⟩; have n1_ : Aside0 (wr.heap[gb195]? = some (.cells #[.int .i64 3, .bool false, .int .i64 0, .int .u64 x196003_1, .string (⟨#[]⟩ : ByteArray)] 33 (0, 0))) := ⟨by rw [← hq_]; exact (by (with_reducible repeat (first | refine blk_drewN ?_ _ | refine blk_drew ?_ | refine blk_alloc ?_ _)); exact BK195.out)⟩; have n2_ : Aside0 (IsS74 w0 wr g s0_0 x1001_1 x1002_1 x1003_1) := ⟨by rw [← hq_]; exact (by repeat (first | (with_reducible first | exact HI0.out | apply IsS74.alloc | apply IsS74.drewN | apply IsS74.drew | apply IsS74.set_1 | apply IsS74.set_2 | apply IsS74.set_3 | refine IsS74.far ?_ NB0_187.out _ | refine IsS74.far ?_ NB0_195.out _) | exact HI0.out))⟩; have n3_ : Aside0 (KeepBut w wr g none) := ⟨by rw [← hq_]; exact (by repeat (first | (with_reducible first | exact HK.out | apply KeepBut.set_ | apply keep_drewN | apply keep_drew | apply keep_alloc | refine keep_far ?_ GW187.out _ | refine keep_far ?_ GW195.out _) | exact HK.out))⟩; have n4_ : Aside0 (Below w0.heap.size w0 wr) := ⟨by rw [← hq_]; exact (by repeat (first | (with_reducible first | exact HB.out | apply below_alloc | apply pw_below_drewN | apply below_drew1 | refine below_set ?_ (IsS74.ge HI0.out) | refine below_set ?_ GE187.out | refine below_set ?_ GE195.out) | exact HB.out))⟩; clear BK187 BK195 HI0 HK HB hq_; have BK187 := n0_; have BK195 := n1_; have HI0 := n2_; have HK := n3_; have HB := n4_; clear n0_ n1_ n2_ n3_ n4_)); obtain ⟨ASz38_0, cSz38_0, HGz38, hgz38, HSz38_0⟩ := HI0.out; have hcz38_0 := cellS74_0 HGz38; have hcz38_1 := cellS74_1 HGz38; have hcz38_2 := cellS74_2 HGz38; have hcz38_3 := cellS74_3 HGz38; have hfz38_1 := blk_frozen HGz38 1; have hfz38_2 := blk_frozen HGz38 2; have hfz38_3 := blk_frozen HGz38 3; clear HGz38 hgz38) | ((with_reducible refine gate_callee (f := 55) rfl ?_); refine goesL_ (some 44) rfl rfl Try.func55 (by kernel_rfl) rfl #[.pointer (some ⟨g, 0, none⟩)] rfl (by (try simp only [List.map_toArray, List.map_cons, List.map_nil]); first | done | rfl | (simp only [List.length_drop, List.length_take]; rfl)) ?_; (with_reducible refine (say_parser_fail.calls g s0_0 t188 x1002_1 x1003_1 t200 t201 t202 w0 _ ?side1 ?side2 A37.out).mono ?_); (case side1 => repeat (first | (with_reducible first | exact HI0.out | apply IsS74.alloc | apply IsS74.drewN | apply IsS74.drew | apply IsS74.set_1 | apply IsS74.set_2 | apply IsS74.set_3 | refine IsS74.far ?_ NB0_187.out _ | refine IsS74.far ?_ NB0_195.out _) | exact HI0.out)); (case side2 => repeat (first | (with_reducible first | exact HB.out | apply below_alloc | apply pw_below_drewN | apply below_drew1 | refine below_set ?_ (IsS74.ge HI0.out) | refine below_set ?_ GE187.out | refine below_set ?_ GE195.out) | exact HB.out)); rintro e w39 ⟨rfl, hi, hb, hk⟩; refine ⟨_, rfl, ?_⟩; have n0_ := Aside0.mk (KeepBut.blk hk (g' := gb187) (o := .cells #[.int .i64 x188000_1, .bool x188001_1, .int .i64 x188002_1, .int .u64 x188003_1, .string x188004_1] 33 (0, 0)) (by (with_reducible repeat (first | refine blk_drewN ?_ _ | refine blk_drew ?_ | refine blk_alloc ?_ _)); refine blk_far ?_ NB187_0.out _; (with_reducible repeat (first | refine blk_drewN ?_ _ | refine blk_drew ?_ | refine blk_alloc ?_ _)); exact BK187.out) NB187_0.out (by simp)); have n1_ := Aside0.mk (KeepBut.blk hk (g' := gb195) (o := .cells #[.int .i64 3, .bool false, .int .i64 0, .int .u64 x196003_1, .string (⟨#[]⟩ : ByteArray)] 33 (0, 0)) (by (with_reducible repeat (first | refine blk_drewN ?_ _ | refine blk_drew ?_ | refine blk_alloc ?_ _)); refine blk_far ?_ NB195_0.out _; (with_reducible repeat (first | refine blk_drewN ?_ _ | refine blk_drew ?_ | refine blk_alloc ?_ _)); exact BK195.out) NB195_0.out (by simp)); have n2_ := Aside0.mk (KeepBut.trans (by repeat (first | (with_reducible first | exact HK.out | apply KeepBut.set_ | apply keep_drewN | apply keep_drew | apply keep_alloc | refine keep_far ?_ GW187.out _ | refine keep_far ?_ GW195.out _) | exact HK.out)) hk (.inl rfl)); have n3_ := Aside0.mk (hb); have n4_ := Aside0.mk (hi); clear BK187; clear BK195; clear HK; clear HB; clear HI0; have BK187 := n0_; have BK195 := n1_; have HK := n2_; have HB := n3_; have HI0 := n4_; clear n0_ n1_ n2_ n3_ n4_; (try clear hb); (try clear hb2); (try clear hk); (try clear hi); have hnb40 := NB187_195.out; have hnc40 := NB195_187.out; have hnb41 := NB187_0.out; have hnc41 := NB0_187.out; have hcz42_0 : w39.cell? ⟨gb187, 0, none⟩ = some (.int .i64 x188000_1) := (blk_cell BK187.out 0).trans rfl; have hcz42_1 : w39.cell? ⟨gb187, 1, none⟩ = some (.bool x188001_1) := (blk_cell BK187.out 1).trans rfl; have hcz42_2 : w39.cell? ⟨gb187, 2, none⟩ = some (.int .i64 x188002_1) := (blk_cell BK187.out 2).trans rfl; have hcz42_3 : w39.cell? ⟨gb187, 3, none⟩ = some (.int .u64 x188003_1) := (blk_cell BK187.out 3).trans rfl; have hcz42_4 : w39.cell? ⟨gb187, 4, none⟩ = some (.string x188004_1) := (blk_cell BK187.out 4).trans rfl; have hfz42_0 := blk_frozen BK187.out 0; have hfz42_1 := blk_frozen BK187.out 1; have hfz42_2 := blk_frozen BK187.out 2; have hfz42_3 := blk_frozen BK187.out 3; have hfz42_4 := blk_frozen BK187.out 4))
                  refine bodyPost_ret (results_cell_row rfl _ _ gb187 33 #[.int .i64 0, .bool false, .int .i64 0, .int .u64 0, .string (⟨#[]⟩ : ByteArray)] (0, 0) _ rfl (by (with_reducible repeat (first | refine blk_drewN ?_ _ | refine blk_drew ?_ | refine blk_alloc ?_ _)); refine blk_put (cs := #[.int .i64 0, .bool false, .int .i64 0, .int .u64 0, .string x188004_1]) ?_ 4 _ rfl; (with_reducible repeat (first | refine blk_drewN ?_ _ | refine blk_drew ?_ | refine blk_alloc ?_ _)); refine blk_put (cs := #[.int .i64 0, .bool false, .int .i64 0, .int .u64 x188003_1, .string x188004_1]) ?_ 3 _ rfl; (with_reducible repeat (first | refine blk_drewN ?_ _ | refine blk_drew ?_ | refine blk_alloc ?_ _)); refine blk_put (cs := #[.int .i64 0, .bool false, .int .i64 x188002_1, .int .u64 x188003_1, .string x188004_1]) ?_ 2 _ rfl; (with_reducible repeat (first | refine blk_drewN ?_ _ | refine blk_drew ?_ | refine blk_alloc ?_ _)); refine blk_put (cs := #[.int .i64 0, .bool x188001_1, .int .i64 x188002_1, .int .u64 x188003_1, .string x188004_1]) ?_ 1 _ rfl; (with_reducible repeat (first | refine blk_drewN ?_ _ | refine blk_drew ?_ | refine blk_alloc ?_ _)); refine blk_put (cs := #[.int .i64 x188000_1, .bool x188001_1, .int .i64 x188002_1, .int .u64 x188003_1, .string x188004_1]) ?_ 0 _ rfl; (with_reducible repeat (first | refine blk_drewN ?_ _ | refine blk_drew ?_ | refine blk_alloc ?_ _)); exact BK187.out) Try.underlying33 rfl (by kernel_rfl)) rfl ?_
                  exact ⟨by first | rfl | (simp [errW_none, errW_some] <;> rfl) | (simp [*, errW_none, errW_some] <;> rfl), by repeat (first | (with_reducible first | exact HI0.out | apply IsS74.alloc | apply IsS74.drewN | apply IsS74.drew | apply IsS74.set_1 | apply IsS74.set_2 | apply IsS74.set_3 | refine IsS74.far ?_ NB0_187.out _ | refine IsS74.far ?_ NB0_195.out _) | exact HI0.out), by repeat (first | (with_reducible first | exact HB.out | apply below_alloc | apply pw_below_drewN | apply below_drew1 | refine below_set ?_ (IsS74.ge HI0.out) | refine below_set ?_ GE187.out | refine below_set ?_ GE195.out) | exact HB.out), by repeat (first | (with_reducible first | exact HK.out | apply KeepBut.set_ | apply keep_drewN | apply keep_drew | apply keep_alloc | refine keep_far ?_ GW187.out _ | refine keep_far ?_ GW195.out _) | exact HK.out)⟩
            · rw [if_neg c23] at H
              exact absurd H (by simp)
          · rw [if_neg c22] at H
            exact absurd H (by simp)
        · rw [if_neg c21] at H
          have c21b0 : decide (x25_1 < (t191.size : Int)) = false := decide_eq_false c21
          clear c21
          by_cases c43 : t191.toList = ([] : List UInt8)
          · rw [if_pos c43] at H
            have c43b0 : (t191.toList == ([] : List UInt8)) = true := beq_iff_eq.mpr c43
            have c43b1 : (t191.toList != ([] : List UInt8)) = false := bne_eq_false_iff_eq.mpr c43
            clear c43
            replace H := Option.bind_eq_some_iff.mp H
            obtain ⟨⟨t203, t204, t205⟩, A440, H⟩ := H
            replace H : ((say_parser_mark.f s0_0 t203 t204 t205 (⟨#[41]⟩ : ByteArray)).bind fun bt206 => (some (3, false, 0, x196003_1, (⟨#[]⟩ : ByteArray), bt206.1, bt206.2.1, bt206.2.2))) = some (r1, r2, r3, r4, r5, r6, r7, r8) := H
            have A44 := Aside0.mk A440
            clear A440
            replace H := Option.bind_eq_some_iff.mp H
            obtain ⟨⟨t206, t207, t208⟩, A450, H⟩ := H
            replace H : (some (3, false, 0, x196003_1, (⟨#[]⟩ : ByteArray), t206, t207, t208)) = some (r1, r2, r3, r4, r5, r6, r7, r8) := H
            have A45 := Aside0.mk A450
            clear A450
            simp only [Option.some.injEq, Prod.mk.injEq] at H
            obtain ⟨rfl, rfl, rfl, rfl, rfl, rfl, rfl, rfl⟩ := H
            obtain ⟨ASz46_0, cSz46_0, HGz46, hgz46, HSz46_0⟩ := HI0.out
            have hcz46_0 := cellS74_0 HGz46
            have hcz46_1 := cellS74_1 HGz46
            have hcz46_2 := cellS74_2 HGz46
            have hcz46_3 := cellS74_3 HGz46
            have hfz46_1 := blk_frozen HGz46 1
            have hfz46_2 := blk_frozen HGz46 2
            have hfz46_3 := blk_frozen HGz46 3
            clear HGz46 hgz46
            go_wp2_with (first | ((with_reducible refine gate_callee (f := 55) rfl ?_); refine goesL_ (some 61) rfl rfl Try.func55 (by kernel_rfl) rfl #[.pointer (some ⟨g, 0, none⟩)] rfl (by (try simp only [List.map_toArray, List.map_cons, List.map_nil]); first | done | rfl | (simp only [List.length_drop, List.length_take]; rfl)) ?_; (with_reducible refine (say_parser_fail.calls g s0_0 t188 x1002_1 x1003_1 t203 t204 t205 w0 _ ?side1 ?side2 A44.out).mono ?_); (case side1 => repeat (first | (with_reducible first | exact HI0.out | apply IsS74.alloc | apply IsS74.drewN | apply IsS74.drew | apply IsS74.set_1 | apply IsS74.set_2 | apply IsS74.set_3 | refine IsS74.far ?_ NB0_187.out _ | refine IsS74.far ?_ NB0_195.out _) | exact HI0.out)); (case side2 => repeat (first | (with_reducible first | exact HB.out | apply below_alloc | apply pw_below_drewN | apply below_drew1 | refine below_set ?_ (IsS74.ge HI0.out) | refine below_set ?_ GE187.out | refine below_set ?_ GE195.out) | exact HB.out)); rintro e w47 ⟨rfl, hi, hb, hk⟩; refine ⟨_, rfl, ?_⟩; have n0_ := Aside0.mk (KeepBut.blk hk (g' := gb187) (o := .cells #[.int .i64 x188000_1, .bool x188001_1, .int .i64 x188002_1, .int .u64 x188003_1, .string x188004_1] 33 (0, 0)) (by (with_reducible repeat (first | refine blk_drewN ?_ _ | refine blk_drew ?_ | refine blk_alloc ?_ _)); refine blk_far ?_ NB187_0.out _; (with_reducible repeat (first | refine blk_drewN ?_ _ | refine blk_drew ?_ | refine blk_alloc ?_ _)); exact BK187.out) NB187_0.out (by simp)); have n1_ := Aside0.mk (KeepBut.blk hk (g' := gb195) (o := .cells #[.int .i64 3, .bool false, .int .i64 0, .int .u64 x196003_1, .string (⟨#[]⟩ : ByteArray)] 33 (0, 0)) (by (with_reducible repeat (first | refine blk_drewN ?_ _ | refine blk_drew ?_ | refine blk_alloc ?_ _)); refine blk_far ?_ NB195_0.out _; (with_reducible repeat (first | refine blk_drewN ?_ _ | refine blk_drew ?_ | refine blk_alloc ?_ _)); exact BK195.out) NB195_0.out (by simp)); have n2_ := Aside0.mk (KeepBut.trans (by repeat (first | (with_reducible first | exact HK.out | apply KeepBut.set_ | apply keep_drewN | apply keep_drew | apply keep_alloc | refine keep_far ?_ GW187.out _ | refine keep_far ?_ GW195.out _) | exact HK.out)) hk (.inl rfl)); have n3_ := Aside0.mk (hb); have n4_ := Aside0.mk (hi); clear BK187; clear BK195; clear HK; clear HB; clear HI0; have BK187 := n0_; have BK195 := n1_; have HK := n2_; have HB := n3_; have HI0 := n4_; clear n0_ n1_ n2_ n3_ n4_; (try clear hb); (try clear hb2); (try clear hk); (try clear hi)) | ((with_reducible refine gate_callee (f := 63) rfl ?_); refine goesL_ (some 63) rfl rfl Try.func63 (by kernel_rfl) rfl #[.pointer (some ⟨g, 0, none⟩), .string (⟨#[41]⟩ : ByteArray)] rfl (by (try simp only [List.map_toArray, List.map_cons, List.map_nil]); first | done | rfl | (simp only [List.length_drop, List.length_take]; rfl)) ?_; (with_reducible refine (say_parser_mark.calls g s0_0 t203 t204 t205 (⟨#[41]⟩ : ByteArray) t206 t207 t208 w0 _ ?side1 ?side2 A45.out).mono ?_); (case side1 => repeat (first | (with_reducible first | exact HI0.out | apply IsS74.alloc | apply IsS74.drewN | apply IsS74.drew | apply IsS74.set_1 | apply IsS74.set_2 | apply IsS74.set_3 | refine IsS74.far ?_ NB0_187.out _ | refine IsS74.far ?_ NB0_195.out _) | exact HI0.out)); (case side2 => repeat (first | (with_reducible first | exact HB.out | apply below_alloc | apply pw_below_drewN | apply below_drew1 | refine below_set ?_ (IsS74.ge HI0.out) | refine below_set ?_ GE187.out | refine below_set ?_ GE195.out) | exact HB.out)); rintro e w48 ⟨rfl, hi, hb, hk⟩; refine ⟨_, rfl, ?_⟩; have n0_ := Aside0.mk (KeepBut.blk hk (g' := gb187) (o := .cells #[.int .i64 x188000_1, .bool x188001_1, .int .i64 x188002_1, .int .u64 x188003_1, .string x188004_1] 33 (0, 0)) (by (with_reducible repeat (first | refine blk_drewN ?_ _ | refine blk_drew ?_ | refine blk_alloc ?_ _)); exact BK187.out) NB187_0.out (by simp)); have n1_ := Aside0.mk (KeepBut.blk hk (g' := gb195) (o := .cells #[.int .i64 3, .bool false, .int .i64 0, .int .u64 x196003_1, .string (⟨#[]⟩ : ByteArray)] 33 (0, 0)) (by (with_reducible repeat (first | refine blk_drewN ?_ _ | refine blk_drew ?_ | refine blk_alloc ?_ _)); exact BK195.out) NB195_0.out (by simp)); have n2_ := Aside0.mk (KeepBut.trans (by repeat (first | (with_reducible first | exact HK.out | apply KeepBut.set_ | apply keep_drewN | apply keep_drew | apply keep_alloc | refine keep_far ?_ GW187.out _ | refine keep_far ?_ GW195.out _) | exact HK.out)) hk (.inl rfl)); have n3_ := Aside0.mk (hb); have n4_ := Aside0.mk (hi); clear BK187; clear BK195; clear HK; clear HB; clear HI0; have BK187 := n0_; have BK195 := n1_; have HK := n2_; have HB := n3_; have HI0 := n4_; clear n0_ n1_ n2_ n3_ n4_; (try clear hb); (try clear hb2); (try clear hk); (try clear hi); have hnb49 := NB195_187.out; have hnc49 := NB187_195.out; have hnb50 := NB195_0.out; have hnc50 := NB0_195.out; have hcz51_0 : w48.cell? ⟨gb195, 0, none⟩ = some (.int .i64 3) := (blk_cell BK195.out 0).trans rfl; have hcz51_1 : w48.cell? ⟨gb195, 1, none⟩ = some (.bool false) := (blk_cell BK195.out 1).trans rfl; have hcz51_2 : w48.cell? ⟨gb195, 2, none⟩ = some (.int .i64 0) := (blk_cell BK195.out 2).trans rfl; have hcz51_3 : w48.cell? ⟨gb195, 3, none⟩ = some (.int .u64 x196003_1) := (blk_cell BK195.out 3).trans rfl; have hcz51_4 : w48.cell? ⟨gb195, 4, none⟩ = some (.string (⟨#[]⟩ : ByteArray)) := (blk_cell BK195.out 4).trans rfl; have hfz51_0 := blk_frozen BK195.out 0; have hfz51_1 := blk_frozen BK195.out 1; have hfz51_2 := blk_frozen BK195.out 2; have hfz51_3 := blk_frozen BK195.out 3; have hfz51_4 := blk_frozen BK195.out 4; have hnb52 := NB187_0.out; have hnc52 := NB0_187.out; have hcz53_0 : w48.cell? ⟨gb187, 0, none⟩ = some (.int .i64 x188000_1) := (blk_cell BK187.out 0).trans rfl; have hcz53_1 : w48.cell? ⟨gb187, 1, none⟩ = some (.bool x188001_1) := (blk_cell BK187.out 1).trans rfl; have hcz53_2 : w48.cell? ⟨gb187, 2, none⟩ = some (.int .i64 x188002_1) := (blk_cell BK187.out 2).trans rfl; have hcz53_3 : w48.cell? ⟨gb187, 3, none⟩ = some (.int .u64 x188003_1) := (blk_cell BK187.out 3).trans rfl; have hcz53_4 : w48.cell? ⟨gb187, 4, none⟩ = some (.string x188004_1) := (blk_cell BK187.out 4).trans rfl; have hfz53_0 := blk_frozen BK187.out 0; have hfz53_1 := blk_frozen BK187.out 1; have hfz53_2 := blk_frozen BK187.out 2; have hfz53_3 := blk_frozen BK187.out 3; have hfz53_4 := blk_frozen BK187.out 4))
            refine bodyPost_ret (results_cell_row rfl _ _ gb187 33 #[.int .i64 3, .bool false, .int .i64 0, .int .u64 x196003_1, .string (⟨#[]⟩ : ByteArray)] (0, 0) _ rfl (by (with_reducible repeat (first | refine blk_drewN ?_ _ | refine blk_drew ?_ | refine blk_alloc ?_ _)); refine blk_put (cs := #[.int .i64 3, .bool false, .int .i64 0, .int .u64 x196003_1, .string x188004_1]) ?_ 4 _ rfl; (with_reducible repeat (first | refine blk_drewN ?_ _ | refine blk_drew ?_ | refine blk_alloc ?_ _)); refine blk_put (cs := #[.int .i64 3, .bool false, .int .i64 0, .int .u64 x188003_1, .string x188004_1]) ?_ 3 _ rfl; (with_reducible repeat (first | refine blk_drewN ?_ _ | refine blk_drew ?_ | refine blk_alloc ?_ _)); refine blk_put (cs := #[.int .i64 3, .bool false, .int .i64 x188002_1, .int .u64 x188003_1, .string x188004_1]) ?_ 2 _ rfl; (with_reducible repeat (first | refine blk_drewN ?_ _ | refine blk_drew ?_ | refine blk_alloc ?_ _)); refine blk_put (cs := #[.int .i64 3, .bool x188001_1, .int .i64 x188002_1, .int .u64 x188003_1, .string x188004_1]) ?_ 1 _ rfl; (with_reducible repeat (first | refine blk_drewN ?_ _ | refine blk_drew ?_ | refine blk_alloc ?_ _)); refine blk_put (cs := #[.int .i64 x188000_1, .bool x188001_1, .int .i64 x188002_1, .int .u64 x188003_1, .string x188004_1]) ?_ 0 _ rfl; (with_reducible repeat (first | refine blk_drewN ?_ _ | refine blk_drew ?_ | refine blk_alloc ?_ _)); exact BK187.out) Try.underlying33 rfl (by kernel_rfl)) rfl ?_
            exact ⟨by first | rfl | (simp [errW_none, errW_some] <;> rfl) | (simp [*, errW_none, errW_some] <;> rfl), by repeat (first | (with_reducible first | exact HI0.out | apply IsS74.alloc | apply IsS74.drewN | apply IsS74.drew | apply IsS74.set_1 | apply IsS74.set_2 | apply IsS74.set_3 | refine IsS74.far ?_ NB0_187.out _ | refine IsS74.far ?_ NB0_195.out _) | exact HI0.out), by repeat (first | (with_reducible first | exact HB.out | apply below_alloc | apply pw_below_drewN | apply below_drew1 | refine below_set ?_ (IsS74.ge HI0.out) | refine below_set ?_ GE187.out | refine below_set ?_ GE195.out) | exact HB.out), by repeat (first | (with_reducible first | exact HK.out | apply KeepBut.set_ | apply keep_drewN | apply keep_drew | apply keep_alloc | refine keep_far ?_ GW187.out _ | refine keep_far ?_ GW195.out _) | exact HK.out)⟩
          · rw [if_neg c43] at H
            have c43b0 : (t191.toList == ([] : List UInt8)) = false := beq_eq_false_iff_ne.mpr c43
            have c43b1 : (t191.toList != ([] : List UInt8)) = true := bne_iff_ne.mpr c43
            replace H := Option.bind_eq_some_iff.mp H
            obtain ⟨⟨t209, t210, t211⟩, A540, H⟩ := H
            replace H : (some (3, false, 0, x196003_1, (⟨#[]⟩ : ByteArray), t209, t210, t211)) = some (r1, r2, r3, r4, r5, r6, r7, r8) := H
            have A54 := Aside0.mk A540
            clear A540
            simp only [Option.some.injEq, Prod.mk.injEq] at H
            obtain ⟨rfl, rfl, rfl, rfl, rfl, rfl, rfl, rfl⟩ := H
            go_wp2_with (first | ((with_reducible refine gate_callee (f := 63) rfl ?_); refine goesL_ (some 63) rfl rfl Try.func63 (by kernel_rfl) rfl #[.pointer (some ⟨g, 0, none⟩), .string (⟨#[41]⟩ : ByteArray)] rfl (by (try simp only [List.map_toArray, List.map_cons, List.map_nil]); first | done | rfl | (simp only [List.length_drop, List.length_take]; rfl)) ?_; (with_reducible refine (say_parser_mark.calls g s0_0 x1001_1 x1002_1 x1003_1 (⟨#[41]⟩ : ByteArray) t209 t210 t211 w0 _ ?side1 ?side2 A54.out).mono ?_); (case side1 => repeat (first | (with_reducible first | exact HI0.out | apply IsS74.alloc | apply IsS74.drewN | apply IsS74.drew | apply IsS74.set_1 | apply IsS74.set_2 | apply IsS74.set_3 | refine IsS74.far ?_ NB0_187.out _ | refine IsS74.far ?_ NB0_195.out _) | exact HI0.out)); (case side2 => repeat (first | (with_reducible first | exact HB.out | apply below_alloc | apply pw_below_drewN | apply below_drew1 | refine below_set ?_ (IsS74.ge HI0.out) | refine below_set ?_ GE187.out | refine below_set ?_ GE195.out) | exact HB.out)); rintro e w55 ⟨rfl, hi, hb, hk⟩; refine ⟨_, rfl, ?_⟩; have n0_ := Aside0.mk (KeepBut.blk hk (g' := gb187) (o := .cells #[.int .i64 x188000_1, .bool x188001_1, .int .i64 x188002_1, .int .u64 x188003_1, .string x188004_1] 33 (0, 0)) (by (with_reducible repeat (first | refine blk_drewN ?_ _ | refine blk_drew ?_ | refine blk_alloc ?_ _)); exact BK187.out) NB187_0.out (by simp)); have n1_ := Aside0.mk (KeepBut.blk hk (g' := gb195) (o := .cells #[.int .i64 3, .bool false, .int .i64 0, .int .u64 x196003_1, .string (⟨#[]⟩ : ByteArray)] 33 (0, 0)) (by (with_reducible repeat (first | refine blk_drewN ?_ _ | refine blk_drew ?_ | refine blk_alloc ?_ _)); exact BK195.out) NB195_0.out (by simp)); have n2_ := Aside0.mk (KeepBut.trans (by repeat (first | (with_reducible first | exact HK.out | apply KeepBut.set_ | apply keep_drewN | apply keep_drew | apply keep_alloc | refine keep_far ?_ GW187.out _ | refine keep_far ?_ GW195.out _) | exact HK.out)) hk (.inl rfl)); have n3_ := Aside0.mk (hb); have n4_ := Aside0.mk (hi); clear BK187; clear BK195; clear HK; clear HB; clear HI0; have BK187 := n0_; have BK195 := n1_; have HK := n2_; have HB := n3_; have HI0 := n4_; clear n0_ n1_ n2_ n3_ n4_; (try clear hb); (try clear hb2); (try clear hk); (try clear hi); have hnb56 := NB195_187.out; have hnc56 := NB187_195.out; have hnb57 := NB195_0.out; have hnc57 := NB0_195.out; have hcz58_0 : w55.cell? ⟨gb195, 0, none⟩ = some (.int .i64 3) := (blk_cell BK195.out 0).trans rfl; have hcz58_1 : w55.cell? ⟨gb195, 1, none⟩ = some (.bool false) := (blk_cell BK195.out 1).trans rfl; have hcz58_2 : w55.cell? ⟨gb195, 2, none⟩ = some (.int .i64 0) := (blk_cell BK195.out 2).trans rfl; have hcz58_3 : w55.cell? ⟨gb195, 3, none⟩ = some (.int .u64 x196003_1) := (blk_cell BK195.out 3).trans rfl; have hcz58_4 : w55.cell? ⟨gb195, 4, none⟩ = some (.string (⟨#[]⟩ : ByteArray)) := (blk_cell BK195.out 4).trans rfl; have hfz58_0 := blk_frozen BK195.out 0; have hfz58_1 := blk_frozen BK195.out 1; have hfz58_2 := blk_frozen BK195.out 2; have hfz58_3 := blk_frozen BK195.out 3; have hfz58_4 := blk_frozen BK195.out 4; have hnb59 := NB187_0.out; have hnc59 := NB0_187.out; have hcz60_0 : w55.cell? ⟨gb187, 0, none⟩ = some (.int .i64 x188000_1) := (blk_cell BK187.out 0).trans rfl; have hcz60_1 : w55.cell? ⟨gb187, 1, none⟩ = some (.bool x188001_1) := (blk_cell BK187.out 1).trans rfl; have hcz60_2 : w55.cell? ⟨gb187, 2, none⟩ = some (.int .i64 x188002_1) := (blk_cell BK187.out 2).trans rfl; have hcz60_3 : w55.cell? ⟨gb187, 3, none⟩ = some (.int .u64 x188003_1) := (blk_cell BK187.out 3).trans rfl; have hcz60_4 : w55.cell? ⟨gb187, 4, none⟩ = some (.string x188004_1) := (blk_cell BK187.out 4).trans rfl; have hfz60_0 := blk_frozen BK187.out 0; have hfz60_1 := blk_frozen BK187.out 1; have hfz60_2 := blk_frozen BK187.out 2; have hfz60_3 := blk_frozen BK187.out 3; have hfz60_4 := blk_frozen BK187.out 4))
            refine bodyPost_ret (results_cell_row rfl _ _ gb187 33 #[.int .i64 3, .bool false, .int .i64 0, .int .u64 x196003_1, .string (⟨#[]⟩ : ByteArray)] (0, 0) _ rfl (by (with_reducible repeat (first | refine blk_drewN ?_ _ | refine blk_drew ?_ | refine blk_alloc ?_ _)); refine blk_put (cs := #[.int .i64 3, .bool false, .int .i64 0, .int .u64 x196003_1, .string x188004_1]) ?_ 4 _ rfl; (with_reducible repeat (first | refine blk_drewN ?_ _ | refine blk_drew ?_ | refine blk_alloc ?_ _)); refine blk_put (cs := #[.int .i64 3, .bool false, .int .i64 0, .int .u64 x188003_1, .string x188004_1]) ?_ 3 _ rfl; (with_reducible repeat (first | refine blk_drewN ?_ _ | refine blk_drew ?_ | refine blk_alloc ?_ _)); refine blk_put (cs := #[.int .i64 3, .bool false, .int .i64 x188002_1, .int .u64 x188003_1, .string x188004_1]) ?_ 2 _ rfl; (with_reducible repeat (first | refine blk_drewN ?_ _ | refine blk_drew ?_ | refine blk_alloc ?_ _)); refine blk_put (cs := #[.int .i64 3, .bool x188001_1, .int .i64 x188002_1, .int .u64 x188003_1, .string x188004_1]) ?_ 1 _ rfl; (with_reducible repeat (first | refine blk_drewN ?_ _ | refine blk_drew ?_ | refine blk_alloc ?_ _)); refine blk_put (cs := #[.int .i64 x188000_1, .bool x188001_1, .int .i64 x188002_1, .int .u64 x188003_1, .string x188004_1]) ?_ 0 _ rfl; (with_reducible repeat (first | refine blk_drewN ?_ _ | refine blk_drew ?_ | refine blk_alloc ?_ _)); exact BK187.out) Try.underlying33 rfl (by kernel_rfl)) rfl ?_
            exact ⟨by first | rfl | (simp [errW_none, errW_some] <;> rfl) | (simp [*, errW_none, errW_some] <;> rfl), by repeat (first | (with_reducible first | exact HI0.out | apply IsS74.alloc | apply IsS74.drewN | apply IsS74.drew | apply IsS74.set_1 | apply IsS74.set_2 | apply IsS74.set_3 | refine IsS74.far ?_ NB0_187.out _ | refine IsS74.far ?_ NB0_195.out _) | exact HI0.out), by repeat (first | (with_reducible first | exact HB.out | apply below_alloc | apply pw_below_drewN | apply below_drew1 | refine below_set ?_ (IsS74.ge HI0.out) | refine below_set ?_ GE187.out | refine below_set ?_ GE195.out) | exact HB.out), by repeat (first | (with_reducible first | exact HK.out | apply KeepBut.set_ | apply keep_drewN | apply keep_drew | apply keep_alloc | refine keep_far ?_ GW187.out _ | refine keep_far ?_ GW195.out _) | exact HK.out)⟩

end Go.Proofs.Ytokkjnfdfbpphaa.A
namespace Go.Proofs.Ytokkjnfdfbpphaa.A
open Go.RowKit Go.Proofs.YtokkjnfdfbpphaaW.PrintWords Go.Proofs.YtokkjnfdfbpphaaW.PrintLast Go.Proofs.YtokkjnfdfbpphaaW.PrintMore
attribute [local go_sem] max2_int min2_int max_two min_two max_three min_three max_four min_four   -- for this text's walks alone
set_option linter.unusedVariables false
set_option linter.unusedSimpArgs false

/-! ### say_parser_word: function 57 -/
def say_parser_word.j0 : Nat → ByteArray → ByteArray → Bool → List (S28) → Int → Int → Int → Option (Int × Bool × Int × Int × ByteArray × Int × Int × Int)
  | 0, _, _, _, _, _, _, _ => none
  | k + 1, x1, x5, x16, x1000, x1001, x1002, x1003 => if x16 = true then (some (1, (x1.toList == ([116, 114, 117, 101] : List UInt8)), 0, 0, (⟨#[]⟩ : ByteArray), wrap64 (x1001 + 1), x1002, x1003)) else (if x5.toList = ([102, 108, 111, 97, 116] : List UInt8) then ((say_parser_float.f k x1000 (wrap64 (x1001 + 1)) x1002 x1003).bind fun bt213 => (some (bt213.1, bt213.2.1, bt213.2.2.1, bt213.2.2.2.1, bt213.2.2.2.2.1, bt213.2.2.2.2.2.1, bt213.2.2.2.2.2.2.1, bt213.2.2.2.2.2.2.2))) else ((say_parser_fail.f x1000 x1001 x1002 x1003).bind fun bt221 => (some (0, false, 0, 0, (⟨#[]⟩ : ByteArray), bt221.1, bt221.2.1, bt221.2.2))))
def say_parser_word.f (k : Nat) (s0_0 : List (S28)) (s0_1 : Int) (s0_2 : Int) (s0_3 : Int) (a1 : ByteArray) : Option (Int × Bool × Int × Int × ByteArray × Int × Int × Int) := if a1.toList = ([110, 117, 108, 108] : List UInt8) then (some (0, false, 0, 0, (⟨#[]⟩ : ByteArray), wrap64 (s0_1 + 1), s0_2, s0_3)) else (if a1.toList = ([116, 114, 117, 101] : List UInt8) then (say_parser_word.j0 k a1 a1 (a1.toList == ([116, 114, 117, 101] : List UInt8)) s0_0 s0_1 s0_2 s0_3) else (say_parser_word.j0 k a1 a1 (a1.toList == ([102, 97, 108, 115, 101] : List UInt8)) s0_0 s0_1 s0_2 s0_3))
theorem say_parser_word.mono_l : ∀ k, (∀ y0 y1 y2 y3 y4 y5 y6, LeO (say_parser_word.j0 k y0 y1 y2 y3 y4 y5 y6) (say_parser_word.j0 (k + 1) y0 y1 y2 y3 y4 y5 y6))
  | 0 => fun _ _ _ _ _ _ _ r h => by simp [say_parser_word.j0] at h
  | k + 1 => by
    have ih0 := say_parser_word.mono_l k
    · intro y0 y1 y2 y3 y4 y5 y6
      unfold say_parser_word.j0
      repeat' first
      | (with_reducible exact ih0 _ _ _ _ _ _ _)
      | (with_reducible exact say_parser_float.mono _ _ _ _ _)
      | (with_reducible exact LeO.refl _)
      | (with_reducible exact LeO.none _)
      | (with_reducible refine LeO.ite ?_ ?_)
      | (with_reducible refine LeO.bind ?_ (fun _ => ?_))
      | exact ih0 _ _ _ _ _ _ _
      | exact say_parser_float.mono _ _ _ _ _
      | exact LeO.none _
      | refine LeO.ite ?_ ?_
      | refine LeO.bind ?_ (fun _ => ?_)
theorem say_parser_word.mono : ∀ a0 a1 a2 a3 a4 k, LeO (say_parser_word.f k a0 a1 a2 a3 a4) (say_parser_word.f (k + 1) a0 a1 a2 a3 a4) := by
  intro a0 a1 a2 a3 a4 k
  have ih0 := say_parser_word.mono_l k
  unfold say_parser_word.f
  repeat' first
      | (with_reducible exact ih0 _ _ _ _ _ _ _)
      | (with_reducible exact say_parser_float.mono _ _ _ _ _)
      | (with_reducible exact LeO.refl _)
      | (with_reducible exact LeO.none _)
      | (with_reducible refine LeO.ite ?_ ?_)
      | (with_reducible refine LeO.bind ?_ (fun _ => ?_))
      | exact ih0 _ _ _ _ _ _ _
      | exact say_parser_float.mono _ _ _ _ _
      | exact LeO.none _
      | refine LeO.ite ?_ ?_
      | refine LeO.bind ?_ (fun _ => ?_)
set_option maxHeartbeats 8000000 in
set_option maxRecDepth 100000 in
theorem say_parser_word.calls (k : Nat) (g : Nat) (s0_0 : List (S28)) (s0_1 : Int) (s0_2 : Int) (s0_3 : Int) (a1 : ByteArray) (r1 : Int) (r2 : Bool) (r3 : Int) (r4 : Int) (r5 : ByteArray) (r6 : Int) (r7 : Int) (r8 : Int) (w0 w : World) (hI : IsS74 w0 w g s0_0 s0_1 s0_2 s0_3) (hB : Below w0.heap.size w0 w) (h : say_parser_word.f k s0_0 s0_1 s0_2 s0_3 a1 = some (r1, r2, r3, r4, r5, r6, r7, r8)) :
    Calls Try.prog 57 #[.pointer (some ⟨g, 0, none⟩), .string a1] w fun e w' => e = .returned (.agg #[.int .i64 r1, .bool r2, .int .i64 r3, .int .u64 r4, .string r5]) ∧ IsS74 w0 w' g s0_0 r6 r7 r8 ∧ Below w0.heap.size w0 w' ∧ KeepBut w w' g none := by
  have hu33 := Try.underlying33
  have HI0 := Aside0.mk hI
  have HK := Aside0.mk (KeepBut.refl w g none)
  have HL := Aside0.mk hB.size
  clear hI
  have HW0 := Aside0.mk hB.size
  have HB := Aside0.mk hB
  clear hB
  have H : (if a1.toList = ([110, 117, 108, 108] : List UInt8) then (some (0, false, 0, 0, (⟨#[]⟩ : ByteArray), wrap64 (s0_1 + 1), s0_2, s0_3)) else (if a1.toList = ([116, 114, 117, 101] : List UInt8) then (say_parser_word.j0 k a1 a1 (a1.toList == ([116, 114, 117, 101] : List UInt8)) s0_0 s0_1 s0_2 s0_3) else (say_parser_word.j0 k a1 a1 (a1.toList == ([102, 97, 108, 115, 101] : List UInt8)) s0_0 s0_1 s0_2 s0_3))) = some (r1, r2, r3, r4, r5, r6, r7, r8) := h
  clear h
  by_cases c3 : a1.toList = ([110, 117, 108, 108] : List UInt8)
  · rw [if_pos c3] at H
    have c3b0 : (a1.toList == ([110, 117, 108, 108] : List UInt8)) = true := beq_iff_eq.mpr c3
    have c3b1 : (a1.toList != ([110, 117, 108, 108] : List UInt8)) = false := bne_eq_false_iff_eq.mpr c3
    clear c3
    simp only [Option.some.injEq, Prod.mk.injEq] at H
    obtain ⟨rfl, rfl, rfl, rfl, rfl, rfl, rfl, rfl⟩ := H
    go_enter Try.func57, Try.ntmps57
    go_wp2_with (first | ((with_reducible refine gate_dst (N := 4) rfl ?_); refine box_event ?hg (N := 4) ?hd (cs := #[.int .i64 0, .bool false, .int .i64 0, .int .u64 0, .string (⟨#[]⟩ : ByteArray)]) (t := 33) ?hr ?_; (case hd => rfl); (case hg => rfl); (case hr => first | (go_simp; done) | (go_simp; rfl)); intro gb212 hg w4 hbox hb; have n0_ := Aside0.mk (IsS74.below (by repeat (first | (with_reducible first | exact HI0.out | apply IsS74.alloc | apply IsS74.drewN | apply IsS74.drew | apply IsS74.set_1 | apply IsS74.set_2 | apply IsS74.set_3) | exact HI0.out)) hb); have n1_ := Aside0.mk (KeepBut.trans (by repeat (first | (with_reducible first | exact HK.out | apply KeepBut.set_ | apply keep_drewN | apply keep_drew | apply keep_alloc) | exact HK.out)) (KeepBut.of_below hb g none) (.inl rfl)); have n2_ := Aside0.mk (below_step (by repeat (first | (with_reducible first | exact HB.out | apply below_alloc | apply pw_below_drewN | apply below_drew1 | refine below_set ?_ (IsS74.ge HI0.out)) | exact HB.out)) hb); have n3_ := Aside0.mk (hbox); have n4_ := Aside0.mk ((by rw [hg]; exact (keep_size (w := w) (g := g) (row := none) (by repeat (first | (with_reducible first | exact HK.out | apply KeepBut.set_ | apply keep_drewN | apply keep_drew | apply keep_alloc) | exact HK.out))) : w.heap.size ≤ gb212)); have n5_ := Aside0.mk ((Nat.le_trans HW0.out (by rw [hg]; exact (keep_size (w := w) (g := g) (row := none) (by repeat (first | (with_reducible first | exact HK.out | apply KeepBut.set_ | apply keep_drewN | apply keep_drew | apply keep_alloc) | exact HK.out))) : w.heap.size ≤ gb212) : w0.heap.size ≤ gb212)); have n6_ := Aside0.mk ((by rw [hg]; exact Nat.ne_of_lt (IsS74.lt (show IsS74 w0 _ g s0_0 s0_1 s0_2 s0_3 from by repeat (first | (with_reducible first | exact HI0.out | apply IsS74.alloc | apply IsS74.drewN | apply IsS74.drew | apply IsS74.set_1 | apply IsS74.set_2 | apply IsS74.set_3) | exact HI0.out))) : g ≠ gb212)); have n7_ := Aside0.mk ((by rw [hg]; exact Nat.ne_of_gt (IsS74.lt (show IsS74 w0 _ g s0_0 s0_1 s0_2 s0_3 from by repeat (first | (with_reducible first | exact HI0.out | apply IsS74.alloc | apply IsS74.drewN | apply IsS74.drew | apply IsS74.set_1 | apply IsS74.set_2 | apply IsS74.set_3) | exact HI0.out))) : gb212 ≠ g)); clear HI0; clear HK; clear HB; have HI0 := n0_; have HK := n1_; have HB := n2_; have BK212 := n3_; have GW212 := n4_; have GE212 := n5_; have NB0_212 := n6_; have NB212_0 := n7_; clear n0_ n1_ n2_ n3_ n4_ n5_ n6_ n7_; clear hb hbox hg; obtain ⟨ASz5_0, cSz5_0, HGz5, hgz5, HSz5_0⟩ := HI0.out; have hcz5_0 := cellS74_0 HGz5; have hcz5_1 := cellS74_1 HGz5; have hcz5_2 := cellS74_2 HGz5; have hcz5_3 := cellS74_3 HGz5; have hfz5_1 := blk_frozen HGz5 1; have hfz5_2 := blk_frozen HGz5 2; have hfz5_3 := blk_frozen HGz5 3; clear HGz5 hgz5; have hnb6 := NB212_0.out; have hnc6 := NB0_212.out; have hcz7_0 : w4.cell? ⟨gb212, 0, none⟩ = some (.int .i64 0) := (blk_cell BK212.out 0).trans rfl; have hcz7_1 : w4.cell? ⟨gb212, 1, none⟩ = some (.bool false) := (blk_cell BK212.out 1).trans rfl; have hcz7_2 : w4.cell? ⟨gb212, 2, none⟩ = some (.int .i64 0) := (blk_cell BK212.out 2).trans rfl; have hcz7_3 : w4.cell? ⟨gb212, 3, none⟩ = some (.int .u64 0) := (blk_cell BK212.out 3).trans rfl; have hcz7_4 : w4.cell? ⟨gb212, 4, none⟩ = some (.string (⟨#[]⟩ : ByteArray)) := (blk_cell BK212.out 4).trans rfl; have hfz7_0 := blk_frozen BK212.out 0; have hfz7_1 := blk_frozen BK212.out 1; have hfz7_2 := blk_frozen BK212.out 2; have hfz7_3 := blk_frozen BK212.out 3; have hfz7_4 := blk_frozen BK212.out 4))
    refine bodyPost_ret (results_cell_row rfl _ _ gb212 33 #[.int .i64 0, .bool false, .int .i64 0, .int .u64 0, .string (⟨#[]⟩ : ByteArray)] (0, 0) _ rfl (by (with_reducible repeat (first | refine blk_drewN ?_ _ | refine blk_drew ?_ | refine blk_alloc ?_ _)); refine blk_put (cs := #[.int .i64 0, .bool false, .int .i64 0, .int .u64 0, .string (⟨#[]⟩ : ByteArray)]) ?_ 4 _ rfl; (with_reducible repeat (first | refine blk_drewN ?_ _ | refine blk_drew ?_ | refine blk_alloc ?_ _)); refine blk_put (cs := #[.int .i64 0, .bool false, .int .i64 0, .int .u64 0, .string (⟨#[]⟩ : ByteArray)]) ?_ 3 _ rfl; (with_reducible repeat (first | refine blk_drewN ?_ _ | refine blk_drew ?_ | refine blk_alloc ?_ _)); refine blk_put (cs := #[.int .i64 0, .bool false, .int .i64 0, .int .u64 0, .string (⟨#[]⟩ : ByteArray)]) ?_ 2 _ rfl; (with_reducible repeat (first | refine blk_drewN ?_ _ | refine blk_drew ?_ | refine blk_alloc ?_ _)); refine blk_put (cs := #[.int .i64 0, .bool false, .int .i64 0, .int .u64 0, .string (⟨#[]⟩ : ByteArray)]) ?_ 1 _ rfl; (with_reducible repeat (first | refine blk_drewN ?_ _ | refine blk_drew ?_ | refine blk_alloc ?_ _)); refine blk_put (cs := #[.int .i64 0, .bool false, .int .i64 0, .int .u64 0, .string (⟨#[]⟩ : ByteArray)]) ?_ 0 _ rfl; (with_reducible repeat (first | refine blk_drewN ?_ _ | refine blk_drew ?_ | refine blk_alloc ?_ _)); refine blk_far ?_ NB212_0.out _; (with_reducible repeat (first | refine blk_drewN ?_ _ | refine blk_drew ?_ | refine blk_alloc ?_ _)); exact BK212.out) Try.underlying33 rfl (by kernel_rfl)) rfl ?_
    exact ⟨by first | rfl | (simp [errW_none, errW_some] <;> rfl) | (simp [*, errW_none, errW_some] <;> rfl), by repeat (first | (with_reducible first | exact HI0.out | apply IsS74.alloc | apply IsS74.drewN | apply IsS74.drew | apply IsS74.set_1 | apply IsS74.set_2 | apply IsS74.set_3 | refine IsS74.far ?_ NB0_212.out _) | exact HI0.out), by repeat (first | (with_reducible first | exact HB.out | apply below_alloc | apply pw_below_drewN | apply below_drew1 | refine below_set ?_ (IsS74.ge HI0.out) | refine below_set ?_ GE212.out) | exact HB.out), by repeat (first | (with_reducible first | exact HK.out | apply KeepBut.set_ | apply keep_drewN | apply keep_drew | apply keep_alloc | refine keep_far ?_ GW212.out _) | exact HK.out)⟩
  · rw [if_neg c3] at H
    have c3b0 : (a1.toList == ([110, 117, 108, 108] : List UInt8)) = false := beq_eq_false_iff_ne.mpr c3
    have c3b1 : (a1.toList != ([110, 117, 108, 108] : List UInt8)) = true := bne_iff_ne.mpr c3
    have HC8 := Aside0.mk H
    clear H
    go_enter Try.func57, Try.ntmps57
    go_upto_if 16 with (first | ((with_reducible refine gate_dst (N := 4) rfl ?_); refine box_event ?hg (N := 4) ?hd (cs := #[.int .i64 0, .bool false, .int .i64 0, .int .u64 0, .string (⟨#[]⟩ : ByteArray)]) (t := 33) ?hr ?_; (case hd => rfl); (case hg => rfl); (case hr => first | (go_simp; done) | (go_simp; rfl)); intro gb212 hg w9 hbox hb; have n0_ := Aside0.mk (IsS74.below (by repeat (first | (with_reducible first | exact HI0.out | apply IsS74.alloc | apply IsS74.drewN | apply IsS74.drew | apply IsS74.set_1 | apply IsS74.set_2 | apply IsS74.set_3) | exact HI0.out)) hb); have n1_ := Aside0.mk (KeepBut.trans (by repeat (first | (with_reducible first | exact HK.out | apply KeepBut.set_ | apply keep_drewN | apply keep_drew | apply keep_alloc) | exact HK.out)) (KeepBut.of_below hb g none) (.inl rfl)); have n2_ := Aside0.mk (below_step (by repeat (first | (with_reducible first | exact HB.out | apply below_alloc | apply pw_below_drewN | apply below_drew1 | refine below_set ?_ (IsS74.ge HI0.out)) | exact HB.out)) hb); have n3_ := Aside0.mk (hbox); have n4_ := Aside0.mk ((by rw [hg]; exact (keep_size (w := w) (g := g) (row := none) (by repeat (first | (with_reducible first | exact HK.out | apply KeepBut.set_ | apply keep_drewN | apply keep_drew | apply keep_alloc) | exact HK.out))) : w.heap.size ≤ gb212)); have n5_ := Aside0.mk ((Nat.le_trans HW0.out (by rw [hg]; exact (keep_size (w := w) (g := g) (row := none) (by repeat (first | (with_reducible first | exact HK.out | apply KeepBut.set_ | apply keep_drewN | apply keep_drew | apply keep_alloc) | exact HK.out))) : w.heap.size ≤ gb212) : w0.heap.size ≤ gb212)); have n6_ := Aside0.mk ((by rw [hg]; exact Nat.ne_of_lt (IsS74.lt (show IsS74 w0 _ g s0_0 s0_1 s0_2 s0_3 from by repeat (first | (with_reducible first | exact HI0.out | apply IsS74.alloc | apply IsS74.drewN | apply IsS74.drew | apply IsS74.set_1 | apply IsS74.set_2 | apply IsS74.set_3) | exact HI0.out))) : g ≠ gb212)); have n7_ := Aside0.mk ((by rw [hg]; exact Nat.ne_of_gt (IsS74.lt (show IsS74 w0 _ g s0_0 s0_1 s0_2 s0_3 from by repeat (first | (with_reducible first | exact HI0.out | apply IsS74.alloc | apply IsS74.drewN | apply IsS74.drew | apply IsS74.set_1 | apply IsS74.set_2 | apply IsS74.set_3) | exact HI0.out))) : gb212 ≠ g)); clear HI0; clear HK; clear HB; have HI0 := n0_; have HK := n1_; have HB := n2_; have BK212 := n3_; have GW212 := n4_; have GE212 := n5_; have NB0_212 := n6_; have NB212_0 := n7_; clear n0_ n1_ n2_ n3_ n4_ n5_ n6_ n7_; clear hb hbox hg))
    (try simp only [Act.put, List.setIfInBounds_toArray, List.set_cons_zero, List.set_cons_succ])
    go_cut [16] (fun v16 wc => ∃ (kq : Nat) (x16_7 : Bool), v16 = .bool x16_7 ∧ Aside0 (say_parser_word.j0 kq a1 a1 x16_7 s0_0 s0_1 s0_2 s0_3 = some (r1, r2, r3, r4, r5, r6, r7, r8)) ∧ Aside0 (kq ≤ k) ∧ Aside0 (wc.heap[gb212]? = some (.cells #[.int .i64 0, .bool false, .int .i64 0, .int .u64 0, .string (⟨#[]⟩ : ByteArray)] 33 (0, 0))) ∧ Aside0 (IsS74 w0 wc g s0_0 s0_1 s0_2 s0_3) ∧ Aside0 (KeepBut w wc g none) ∧ Aside0 (Below w0.heap.size w0 wc))
    case first =>
      have H := HC8.out
      clear HC8
      by_cases c10 : a1.toList = ([116, 114, 117, 101] : List UInt8)
      · rw [if_pos c10] at H
        have c10b0 : (a1.toList == ([116, 114, 117, 101] : List UInt8)) = true := beq_iff_eq.mpr c10
        have c10b1 : (a1.toList != ([116, 114, 117, 101] : List UInt8)) = false := bne_eq_false_iff_eq.mpr c10
        clear c10
        (first | rw [c10b0] | (simp only [i64_w, i32_w]; rw [c10b0]) | skip)
        have H' := Aside0.mk H
        clear H
        go_wp2
        go_meet
        case rel => exact ⟨_, ((a1.toList == ([116, 114, 117, 101] : List UInt8))), (by first | rfl | (simp; done) | (simp [*]; done)), H', ⟨by first | omega | exact Nat.le_refl _⟩, ⟨by (with_reducible repeat (first | refine blk_drewN ?_ _ | refine blk_drew ?_ | refine blk_alloc ?_ _)); exact BK212.out⟩, ⟨by repeat (first | (with_reducible first | exact HI0.out | apply IsS74.alloc | apply IsS74.drewN | apply IsS74.drew | apply IsS74.set_1 | apply IsS74.set_2 | apply IsS74.set_3 | refine IsS74.far ?_ NB0_212.out _) | exact HI0.out)⟩, ⟨by repeat (first | (with_reducible first | exact HK.out | apply KeepBut.set_ | apply keep_drewN | apply keep_drew | apply keep_alloc | refine keep_far ?_ GW212.out _) | exact HK.out)⟩, ⟨by repeat (first | (with_reducible first | exact HB.out | apply below_alloc | apply pw_below_drewN | apply below_drew1 | refine below_set ?_ (IsS74.ge HI0.out) | refine below_set ?_ GE212.out) | exact HB.out)⟩⟩
      · rw [if_neg c10] at H
        have c10b0 : (a1.toList == ([116, 114, 117, 101] : List UInt8)) = false := beq_eq_false_iff_ne.mpr c10
        have c10b1 : (a1.toList != ([116, 114, 117, 101] : List UInt8)) = true := bne_iff_ne.mpr c10
        (first | rw [c10b0] | (simp only [i64_w, i32_w]; rw [c10b0]) | skip)
        have H' := Aside0.mk H
        clear H
        go_wp2
        go_meet
        case rel => exact ⟨_, ((a1.toList == ([102, 97, 108, 115, 101] : List UInt8))), (by first | rfl | (simp; done) | (simp [*]; done)), H', ⟨by first | omega | exact Nat.le_refl _⟩, ⟨by (with_reducible repeat (first | refine blk_drewN ?_ _ | refine blk_drew ?_ | refine blk_alloc ?_ _)); exact BK212.out⟩, ⟨by repeat (first | (with_reducible first | exact HI0.out | apply IsS74.alloc | apply IsS74.drewN | apply IsS74.drew | apply IsS74.set_1 | apply IsS74.set_2 | apply IsS74.set_3 | refine IsS74.far ?_ NB0_212.out _) | exact HI0.out)⟩, ⟨by repeat (first | (with_reducible first | exact HK.out | apply KeepBut.set_ | apply keep_drewN | apply keep_drew | apply keep_alloc | refine keep_far ?_ GW212.out _) | exact HK.out)⟩, ⟨by repeat (first | (with_reducible first | exact HB.out | apply below_alloc | apply pw_below_drewN | apply below_drew1 | refine below_set ?_ (IsS74.ge HI0.out) | refine below_set ?_ GE212.out) | exact HB.out)⟩⟩
    case rest =>
      clear HC8
      try clear c1
      try clear p2
      try clear c3
      try clear c3b0
      try clear c3b1
      try clear c5
      try clear c6
      try clear p6
      try clear c10
      try clear c10b0
      try clear c10b1
      try clear hcz5_0
      try clear hcz5_1
      try clear hcz5_2
      try clear hcz5_3
      try clear hcz7_0
      try clear hcz7_1
      try clear hcz7_2
      try clear hcz7_3
      try clear hcz7_4
      try clear hfz5_1
      try clear hfz5_2
      try clear hfz5_3
      try clear hfz7_0
      try clear hfz7_1
      try clear hfz7_2
      try clear hfz7_3
      try clear hfz7_4
      obtain ⟨kq, x16_7, rfl, HA, HJ7, BK212, HI0, HK, HB⟩ := hcut
      cases kq with
      | zero => exact absurd HA.out (by simp [say_parser_word.j0])
      | succ kj7 =>
        have H := HA.out
        clear HA
        simp only [say_parser_word.j0] at H
        by_cases c11 : x16_7 = true
        · subst c11
          have H1 : (some (1, (a1.toList == ([116, 114, 117, 101] : List UInt8)), 0, 0, (⟨#[]⟩ : ByteArray), wrap64 (s0_1 + 1), s0_2, s0_3)) = some (r1, r2, r3, r4, r5, r6, r7, r8) := by rw [if_pos rfl] at H; exact H
          clear H
          have H := H1
          clear H1
          simp only [Option.some.injEq, Prod.mk.injEq] at H
          obtain ⟨rfl, rfl, rfl, rfl, rfl, rfl, rfl, rfl⟩ := H
          obtain ⟨ASz12_0, cSz12_0, HGz12, hgz12, HSz12_0⟩ := HI0.out
          have hcz12_0 := cellS74_0 HGz12
          have hcz12_1 := cellS74_1 HGz12
          have hcz12_2 := cellS74_2 HGz12
          have hcz12_3 := cellS74_3 HGz12
          have hfz12_1 := blk_frozen HGz12 1
          have hfz12_2 := blk_frozen HGz12 2
          have hfz12_3 := blk_frozen HGz12 3
          clear HGz12 hgz12
          have hnb13 := NB212_0.out
          have hnc13 := NB0_212.out
          have hcz14_0 : wc.cell? ⟨gb212, 0, none⟩ = some (.int .i64 0) := (blk_cell BK212.out 0).trans rfl
          have hcz14_1 : wc.cell? ⟨gb212, 1, none⟩ = some (.bool false) := (blk_cell BK212.out 1).trans rfl
          have hcz14_2 : wc.cell? ⟨gb212, 2, none⟩ = some (.int .i64 0) := (blk_cell BK212.out 2).trans rfl
          have hcz14_3 : wc.cell? ⟨gb212, 3, none⟩ = some (.int .u64 0) := (blk_cell BK212.out 3).trans rfl
          have hcz14_4 : wc.cell? ⟨gb212, 4, none⟩ = some (.string (⟨#[]⟩ : ByteArray)) := (blk_cell BK212.out 4).trans rfl
          have hfz14_0 := blk_frozen BK212.out 0
          have hfz14_1 := blk_frozen BK212.out 1
          have hfz14_2 := blk_frozen BK212.out 2
          have hfz14_3 := blk_frozen BK212.out 3
          have hfz14_4 := blk_frozen BK212.out 4
          go_wp2
          refine bodyPost_ret (results_cell_row rfl _ _ gb212 33 #[.int .i64 1, .bool (a1.toList == ([116, 114, 117, 101] : List UInt8)), .int .i64 0, .int .u64 0, .string (⟨#[]⟩ : ByteArray)] (0, 0) _ rfl (by (with_reducible repeat (first | refine blk_drewN ?_ _ | refine blk_drew ?_ | refine blk_alloc ?_ _)); refine blk_put (cs := #[.int .i64 1, .bool (a1.toList == ([116, 114, 117, 101] : List UInt8)), .int .i64 0, .int .u64 0, .string (⟨#[]⟩ : ByteArray)]) ?_ 4 _ rfl; (with_reducible repeat (first | refine blk_drewN ?_ _ | refine blk_drew ?_ | refine blk_alloc ?_ _)); refine blk_put (cs := #[.int .i64 1, .bool (a1.toList == ([116, 114, 117, 101] : List UInt8)), .int .i64 0, .int .u64 0, .string (⟨#[]⟩ : ByteArray)]) ?_ 3 _ rfl; (with_reducible repeat (first | refine blk_drewN ?_ _ | refine blk_drew ?_ | refine blk_alloc ?_ _)); refine blk_put (cs := #[.int .i64 1, .bool (a1.toList == ([116, 114, 117, 101] : List UInt8)), .int .i64 0, .int .u64 0, .string (⟨#[]⟩ : ByteArray)]) ?_ 2 _ rfl; (with_reducible repeat (first | refine blk_drewN ?_ _ | refine blk_drew ?_ | refine blk_alloc ?_ _)); refine blk_put (cs := #[.int .i64 1, .bool false, .int .i64 0, .int .u64 0, .string (⟨#[]⟩ : ByteArray)]) ?_ 1 _ rfl; (with_reducible repeat (first | refine blk_drewN ?_ _ | refine blk_drew ?_ | refine blk_alloc ?_ _)); refine blk_put (cs := #[.int .i64 0, .bool false, .int .i64 0, .int .u64 0, .string (⟨#[]⟩ : ByteArray)]) ?_ 0 _ rfl; (with_reducible repeat (first | refine blk_drewN ?_ _ | refine blk_drew ?_ | refine blk_alloc ?_ _)); refine blk_far ?_ NB212_0.out _; (with_reducible repeat (first | refine blk_drewN ?_ _ | refine blk_drew ?_ | refine blk_alloc ?_ _)); exact BK212.out) Try.underlying33 rfl (by kernel_rfl)) rfl ?_
          exact ⟨by first | rfl | (simp [errW_none, errW_some] <;> rfl) | (simp [*, errW_none, errW_some] <;> rfl), by repeat (first | (with_reducible first | exact HI0.out | apply IsS74.alloc | apply IsS74.drewN | apply IsS74.drew | apply IsS74.set_1 | apply IsS74.set_2 | apply IsS74.set_3 | refine IsS74.far ?_ NB0_212.out _) | exact HI0.out), by repeat (first | (with_reducible first | exact HB.out | apply below_alloc | apply pw_below_drewN | apply below_drew1 | refine below_set ?_ (IsS74.ge HI0.out) | refine below_set ?_ GE212.out) | exact HB.out), by repeat (first | (with_reducible first | exact HK.out | apply KeepBut.set_ | apply keep_drewN | apply keep_drew | apply keep_alloc | refine keep_far ?_ GW212.out _) | exact HK.out)⟩
        · replace c11 := Bool.eq_false_iff.mpr c11
          subst c11
          have H1 : (if a1.toList = ([102, 108, 111, 97, 116] : List UInt8) then ((say_parser_float.f kj7 s0_0 (wrap64 (s0_1 + 1)) s0_2 s0_3).bind fun bt213 => (some (bt213.1, bt213.2.1, bt213.2.2.1, bt213.2.2.2.1, bt213.2.2.2.2.1, bt213.2.2.2.2.2.1, bt213.2.2.2.2.2.2.1, bt213.2.2.2.2.2.2.2))) else ((say_parser_fail.f s0_0 s0_1 s0_2 s0_3).bind fun bt221 => (some (0, false, 0, 0, (⟨#[]⟩ : ByteArray), bt221.1, bt221.2.1, bt221.2.2)))) = some (r1, r2, r3, r4, r5, r6, r7, r8) := by rw [if_neg (show ¬ (false = true) by decide)] at H; exact H
          clear H
          have H := H1
          clear H1
          by_cases c15 : a1.toList = ([102, 108, 111, 97, 116] : List UInt8)
          · rw [if_pos c15] at H
            have c15b0 : (a1.toList == ([102, 108, 111, 97, 116] : List UInt8)) = true := beq_iff_eq.mpr c15
            have c15b1 : (a1.toList != ([102, 108, 111, 97, 116] : List UInt8)) = false := bne_eq_false_iff_eq.mpr c15
            clear c15
            replace H := Option.bind_eq_some_iff.mp H
            obtain ⟨⟨t213, t214, t215, t216, t217, t218, t219, t220⟩, A160, H⟩ := H
            replace H : (some (t213, t214, t215, t216, t217, t218, t219, t220)) = some (r1, r2, r3, r4, r5, r6, r7, r8) := H
            have A16 := Aside0.mk A160
            clear A160
            simp only [Option.some.injEq, Prod.mk.injEq] at H
            obtain ⟨rfl, rfl, rfl, rfl, rfl, rfl, rfl, rfl⟩ := H
            obtain ⟨ASz17_0, cSz17_0, HGz17, hgz17, HSz17_0⟩ := HI0.out
            have hcz17_0 := cellS74_0 HGz17
            have hcz17_1 := cellS74_1 HGz17
            have hcz17_2 := cellS74_2 HGz17
            have hcz17_3 := cellS74_3 HGz17
            have hfz17_1 := blk_frozen HGz17 1
            have hfz17_2 := blk_frozen HGz17 2
            have hfz17_3 := blk_frozen HGz17 3
            clear HGz17 hgz17
            go_wp2_with (first | ((with_reducible refine gate_callee (f := 70) rfl ?_); refine goesL_ (some 39) rfl rfl Try.func70 (by kernel_rfl) rfl #[.pointer (some ⟨g, 0, none⟩)] rfl (by (try simp only [List.map_toArray, List.map_cons, List.map_nil]); first | done | rfl | (simp only [List.length_drop, List.length_take]; rfl)) ?_; (with_reducible refine (say_parser_float.calls kj7 g s0_0 (wrap64 (s0_1 + 1)) s0_2 s0_3 t213 t214 t215 t216 t217 t218 t219 t220 w0 _ ?side1 ?side2 A16.out).mono ?_); (case side1 => repeat (first | (with_reducible first | exact HI0.out | apply IsS74.alloc | apply IsS74.drewN | apply IsS74.drew | apply IsS74.set_1 | apply IsS74.set_2 | apply IsS74.set_3 | refine IsS74.far ?_ NB0_212.out _) | exact HI0.out)); (case side2 => repeat (first | (with_reducible first | exact HB.out | apply below_alloc | apply pw_below_drewN | apply below_drew1 | refine below_set ?_ (IsS74.ge HI0.out) | refine below_set ?_ GE212.out) | exact HB.out)); rintro e w18 ⟨rfl, hi, hb, hk⟩; refine ⟨_, rfl, ?_⟩; have n0_ := Aside0.mk (KeepBut.blk hk (g' := gb212) (o := .cells #[.int .i64 0, .bool false, .int .i64 0, .int .u64 0, .string (⟨#[]⟩ : ByteArray)] 33 (0, 0)) (by (with_reducible repeat (first | refine blk_drewN ?_ _ | refine blk_drew ?_ | refine blk_alloc ?_ _)); refine blk_far ?_ NB212_0.out _; (with_reducible repeat (first | refine blk_drewN ?_ _ | refine blk_drew ?_ | refine blk_alloc ?_ _)); exact BK212.out) NB212_0.out (by simp)); have n1_ := Aside0.mk (KeepBut.trans (by repeat (first | (with_reducible first | exact HK.out | apply KeepBut.set_ | apply keep_drewN | apply keep_drew | apply keep_alloc | refine keep_far ?_ GW212.out _) | exact HK.out)) hk (.inl rfl)); have n2_ := Aside0.mk (hb); have n3_ := Aside0.mk (hi); clear BK212; clear HK; clear HB; clear HI0; have BK212 := n0_; have HK := n1_; have HB := n2_; have HI0 := n3_; clear n0_ n1_ n2_ n3_; (try clear hb); (try clear hb2); (try clear hk); (try clear hi); have hnb19 := NB212_0.out; have hnc19 := NB0_212.out; have hcz20_0 : w18.cell? ⟨gb212, 0, none⟩ = some (.int .i64 0) := (blk_cell BK212.out 0).trans rfl; have hcz20_1 : w18.cell? ⟨gb212, 1, none⟩ = some (.bool false) := (blk_cell BK212.out 1).trans rfl; have hcz20_2 : w18.cell? ⟨gb212, 2, none⟩ = some (.int .i64 0) := (blk_cell BK212.out 2).trans rfl; have hcz20_3 : w18.cell? ⟨gb212, 3, none⟩ = some (.int .u64 0) := (blk_cell BK212.out 3).trans rfl; have hcz20_4 : w18.cell? ⟨gb212, 4, none⟩ = some (.string (⟨#[]⟩ : ByteArray)) := (blk_cell BK212.out 4).trans rfl; have hfz20_0 := blk_frozen BK212.out 0; have hfz20_1 := blk_frozen BK212.out 1; have hfz20_2 := blk_frozen BK212.out 2; have hfz20_3 := blk_frozen BK212.out 3; have hfz20_4 := blk_frozen BK212.out 4))
            refine bodyPost_ret (results_cell_row rfl _ _ gb212 33 #[.int .i64 t213, .bool t214, .int .i64 t215, .int .u64 t216, .string t217] (0, 0) _ rfl (by (with_reducible repeat (first | refine blk_drewN ?_ _ | refine blk_drew ?_ | refine blk_alloc ?_ _)); refine blk_put (cs := #[.int .i64 t213, .bool t214, .int .i64 t215, .int .u64 t216, .string (⟨#[]⟩ : ByteArray)]) ?_ 4 _ rfl; (with_reducible repeat (first | refine blk_drewN ?_ _ | refine blk_drew ?_ | refine blk_alloc ?_ _)); refine blk_put (cs := #[.int .i64 t213, .bool t214, .int .i64 t215, .int .u64 0, .string (⟨#[]⟩ : ByteArray)]) ?_ 3 _ rfl; (with_reducible repeat (first | refine blk_drewN ?_ _ | refine blk_drew ?_ | refine blk_alloc ?_ _)); refine blk_put (cs := #[.int .i64 t213, .bool t214, .int .i64 0, .int .u64 0, .string (⟨#[]⟩ : ByteArray)]) ?_ 2 _ rfl; (with_reducible repeat (first | refine blk_drewN ?_ _ | refine blk_drew ?_ | refine blk_alloc ?_ _)); refine blk_put (cs := #[.int .i64 t213, .bool false, .int .i64 0, .int .u64 0, .string (⟨#[]⟩ : ByteArray)]) ?_ 1 _ rfl; (with_reducible repeat (first | refine blk_drewN ?_ _ | refine blk_drew ?_ | refine blk_alloc ?_ _)); refine blk_put (cs := #[.int .i64 0, .bool false, .int .i64 0, .int .u64 0, .string (⟨#[]⟩ : ByteArray)]) ?_ 0 _ rfl; (with_reducible repeat (first | refine blk_drewN ?_ _ | refine blk_drew ?_ | refine blk_alloc ?_ _)); exact BK212.out) Try.underlying33 rfl (by kernel_rfl)) rfl ?_
            exact ⟨by first | rfl | (simp [errW_none, errW_some] <;> rfl) | (simp [*, errW_none, errW_some] <;> rfl), by repeat (first | (with_reducible first | exact HI0.out | apply IsS74.alloc | apply IsS74.drewN | apply IsS74.drew | apply IsS74.set_1 | apply IsS74.set_2 | apply IsS74.set_3 | refine IsS74.far ?_ NB0_212.out _) | exact HI0.out), by repeat (first | (with_reducible first | exact HB.out | apply below_alloc | apply pw_below_drewN | apply below_drew1 | refine below_set ?_ (IsS74.ge HI0.out) | refine below_set ?_ GE212.out) | exact HB.out), by repeat (first | (with_reducible first | exact HK.out | apply KeepBut.set_ | apply keep_drewN | apply keep_drew | apply keep_alloc | refine keep_far ?_ GW212.out _) | exact HK.out)⟩
          · rw [if_neg c15] at H
            have c15b0 : (a1.toList == ([102, 108, 111, 97, 116] : List UInt8)) = false := beq_eq_false_iff_ne.mpr c15
            have c15b1 : (a1.toList != ([102, 108, 111, 97, 116] : List UInt8)) = true := bne_iff_ne.mpr c15
            replace H := Option.bind_eq_some_iff.mp H
            obtain ⟨⟨t221, t222, t223⟩, A210, H⟩ := H
            replace H : (some (0, false, 0, 0, (⟨#[]⟩ : ByteArray), t221, t222, t223)) = some (r1, r2, r3, r4, r5, r6, r7, r8) := H
            have A21 := Aside0.mk A210
            clear A210
            simp only [Option.some.injEq, Prod.mk.injEq] at H
            obtain ⟨rfl, rfl, rfl, rfl, rfl, rfl, rfl, rfl⟩ := H
            go_wp2_with (first | ((with_reducible refine gate_callee (f := 55) rfl ?_); refine goesL_ (some 41) rfl rfl Try.func55 (by kernel_rfl) rfl #[.pointer (some ⟨g, 0, none⟩)] rfl (by (try simp only [List.map_toArray, List.map_cons, List.map_nil]); first | done | rfl | (simp only [List.length_drop, List.length_take]; rfl)) ?_; (with_reducible refine (say_parser_fail.calls g s0_0 s0_1 s0_2 s0_3 t221 t222 t223 w0 _ ?side1 ?side2 A21.out).mono ?_); (case side1 => repeat (first | (with_reducible first | exact HI0.out | apply IsS74.alloc | apply IsS74.drewN | apply IsS74.drew | apply IsS74.set_1 | apply IsS74.set_2 | apply IsS74.set_3 | refine IsS74.far ?_ NB0_212.out _) | exact HI0.out)); (case side2 => repeat (first | (with_reducible first | exact HB.out | apply below_alloc | apply pw_below_drewN | apply below_drew1 | refine below_set ?_ (IsS74.ge HI0.out) | refine below_set ?_ GE212.out) | exact HB.out)); rintro e w22 ⟨rfl, hi, hb, hk⟩; refine ⟨_, rfl, ?_⟩; have n0_ := Aside0.mk (KeepBut.blk hk (g' := gb212) (o := .cells #[.int .i64 0, .bool false, .int .i64 0, .int .u64 0, .string (⟨#[]⟩ : ByteArray)] 33 (0, 0)) (by (with_reducible repeat (first | refine blk_drewN ?_ _ | refine blk_drew ?_ | refine blk_alloc ?_ _)); exact BK212.out) NB212_0.out (by simp)); have n1_ := Aside0.mk (KeepBut.trans (by repeat (first | (with_reducible first | exact HK.out | apply KeepBut.set_ | apply keep_drewN | apply keep_drew | apply keep_alloc | refine keep_far ?_ GW212.out _) | exact HK.out)) hk (.inl rfl)); have n2_ := Aside0.mk (hb); have n3_ := Aside0.mk (hi); clear BK212; clear HK; clear HB; clear HI0; have BK212 := n0_; have HK := n1_; have HB := n2_; have HI0 := n3_; clear n0_ n1_ n2_ n3_; (try clear hb); (try clear hb2); (try clear hk); (try clear hi); have hnb23 := NB212_0.out; have hnc23 := NB0_212.out; have hcz24_0 : w22.cell? ⟨gb212, 0, none⟩ = some (.int .i64 0) := (blk_cell BK212.out 0).trans rfl; have hcz24_1 : w22.cell? ⟨gb212, 1, none⟩ = some (.bool false) := (blk_cell BK212.out 1).trans rfl; have hcz24_2 : w22.cell? ⟨gb212, 2, none⟩ = some (.int .i64 0) := (blk_cell BK212.out 2).trans rfl; have hcz24_3 : w22.cell? ⟨gb212, 3, none⟩ = some (.int .u64 0) := (blk_cell BK212.out 3).trans rfl; have hcz24_4 : w22.cell? ⟨gb212, 4, none⟩ = some (.string (⟨#[]⟩ : ByteArray)) := (blk_cell BK212.out 4).trans rfl; have hfz24_0 := blk_frozen BK212.out 0; have hfz24_1 := blk_frozen BK212.out 1; have hfz24_2 := blk_frozen BK212.out 2; have hfz24_3 := blk_frozen BK212.out 3; have hfz24_4 := blk_frozen BK212.out 4))
            refine bodyPost_ret (results_cell_row rfl _ _ gb212 33 #[.int .i64 0, .bool false, .int .i64 0, .int .u64 0, .string (⟨#[]⟩ : ByteArray)] (0, 0) _ rfl (by (with_reducible repeat (first | refine blk_drewN ?_ _ | refine blk_drew ?_ | refine blk_alloc ?_ _)); refine blk_put (cs := #[.int .i64 0, .bool false, .int .i64 0, .int .u64 0, .string (⟨#[]⟩ : ByteArray)]) ?_ 4 _ rfl; (with_reducible repeat (first | refine blk_drewN ?_ _ | refine blk_drew ?_ | refine blk_alloc ?_ _)); refine blk_put (cs := #[.int .i64 0, .bool false, .int .i64 0, .int .u64 0, .string (⟨#[]⟩ : ByteArray)]) ?_ 3 _ rfl; (with_reducible repeat (first | refine blk_drewN ?_ _ | refine blk_drew ?_ | refine blk_alloc ?_ _)); refine blk_put (cs := #[.int .i64 0, .bool false, .int .i64 0, .int .u64 0, .string (⟨#[]⟩ : ByteArray)]) ?_ 2 _ rfl; (with_reducible repeat (first | refine blk_drewN ?_ _ | refine blk_drew ?_ | refine blk_alloc ?_ _)); refine blk_put (cs := #[.int .i64 0, .bool false, .int .i64 0, .int .u64 0, .string (⟨#[]⟩ : ByteArray)]) ?_ 1 _ rfl; (with_reducible repeat (first | refine blk_drewN ?_ _ | refine blk_drew ?_ | refine blk_alloc ?_ _)); refine blk_put (cs := #[.int .i64 0, .bool false, .int .i64 0, .int .u64 0, .string (⟨#[]⟩ : ByteArray)]) ?_ 0 _ rfl; (with_reducible repeat (first | refine blk_drewN ?_ _ | refine blk_drew ?_ | refine blk_alloc ?_ _)); exact BK212.out) Try.underlying33 rfl (by kernel_rfl)) rfl ?_
            exact ⟨by first | rfl | (simp [errW_none, errW_some] <;> rfl) | (simp [*, errW_none, errW_some] <;> rfl), by repeat (first | (with_reducible first | exact HI0.out | apply IsS74.alloc | apply IsS74.drewN | apply IsS74.drew | apply IsS74.set_1 | apply IsS74.set_2 | apply IsS74.set_3 | refine IsS74.far ?_ NB0_212.out _) | exact HI0.out), by repeat (first | (with_reducible first | exact HB.out | apply below_alloc | apply pw_below_drewN | apply below_drew1 | refine below_set ?_ (IsS74.ge HI0.out) | refine below_set ?_ GE212.out) | exact HB.out), by repeat (first | (with_reducible first | exact HK.out | apply KeepBut.set_ | apply keep_drewN | apply keep_drew | apply keep_alloc | refine keep_far ?_ GW212.out _) | exact HK.out)⟩

end Go.Proofs.Ytokkjnfdfbpphaa.A
namespace Go.Proofs.Ytokkjnfdfbpphaa.A
open Go.RowKit Go.Proofs.YtokkjnfdfbpphaaW.PrintWords Go.Proofs.YtokkjnfdfbpphaaW.PrintLast Go.Proofs.YtokkjnfdfbpphaaW.PrintMore
attribute [local go_sem] max2_int min2_int max_two min_two max_three min_three max_four min_four   -- for this text's walks alone
set_option linter.unusedVariables false
set_option linter.unusedSimpArgs false

/-- A parser's method under way: the parser's block, and a block of its own that holds what it will answer. -/
structure Fr (w0 w wc : World) (g : Nat) (s0 : List S28) (s1 s2 s3 : Int) (gb : Nat) (cs : Array Value) (T : TypeId) : Prop where
  i : IsS74 w0 wc g s0 s1 s2 s3
  b : Below w0.heap.size w0 wc
  k : KeepBut w wc g none
  ge : w.heap.size ≤ gb
  lt : w0.heap.size ≤ w.heap.size
  ne : gb ≠ g
  box : wc.heap[gb]? = some (.cells cs T (0, 0))
theorem Fr.drewN {w0 w wc : World} {g : Nat} {s0 : List S28} {s1 s2 s3 : Int} {gb : Nat} {cs : Array Value} {T : TypeId} (h : Fr w0 w wc g s0 s1 s2 s3 gb cs T) (n : Nat) : Fr w0 w (wc.drewN n) g s0 s1 s2 s3 gb cs T :=
  ⟨h.i.drewN n, pw_below_drewN h.b n, keep_drewN h.k n, h.ge, h.lt, h.ne, blk_drewN h.box n⟩
theorem Fr.drew {w0 w wc : World} {g : Nat} {s0 : List S28} {s1 s2 s3 : Int} {gb : Nat} {cs : Array Value} {T : TypeId} (h : Fr w0 w wc g s0 s1 s2 s3 gb cs T) : Fr w0 w wc.drew g s0 s1 s2 s3 gb cs T :=
  ⟨h.i.drew, below_drew1 h.b, keep_drew h.k, h.ge, h.lt, h.ne, blk_drew h.box⟩
theorem Fr.alloc {w0 w wc : World} {g : Nat} {s0 : List S28} {s1 s2 s3 : Int} {gb : Nat} {cs : Array Value} {T : TypeId} (h : Fr w0 w wc g s0 s1 s2 s3 gb cs T) (o : Obj) : Fr w0 w (wc.alloc o) g s0 s1 s2 s3 gb cs T :=
  ⟨h.i.alloc o, below_alloc h.b o, keep_alloc h.k o, h.ge, h.lt, h.ne, blk_alloc h.box o⟩
theorem Fr.start {w0 w : World} {g : Nat} {s0 : List S28} {s1 s2 s3 : Int} (hI : IsS74 w0 w g s0 s1 s2 s3) (hB : Below w0.heap.size w0 w) (cs : Array Value) (T : TypeId) :
    Fr w0 w (w.alloc (.cells cs T)) g s0 s1 s2 s3 w.heap.size cs T :=
  ⟨hI.alloc _, below_alloc hB _, keep_alloc (KeepBut.refl _ _ _) _, Nat.le_refl _, hB.size, fun e => by have := hI.lt; omega, blk_new w _⟩
theorem Fr.put {w0 w wc : World} {g : Nat} {s0 : List S28} {s1 s2 s3 : Int} {gb : Nat} {cs : Array Value} {T : TypeId} (h : Fr w0 w wc g s0 s1 s2 s3 gb cs T) (j : Nat) (u : Value) {cs2 : Array Value} (hj : cs.setIfInBounds j u = cs2) :
    Fr w0 w (wc.setCell ⟨gb, j, none⟩ u) g s0 s1 s2 s3 gb cs2 T :=
  ⟨h.i.far (fun e => h.ne e.symm) u, below_set h.b (Nat.le_trans h.lt h.ge), keep_far h.k h.ge u, h.ge, h.lt, h.ne, blk_put h.box j u hj⟩
theorem Fr.set_1 {w0 w wc : World} {g : Nat} {s0 : List S28} {s1 s2 s3 : Int} {gb : Nat} {cs : Array Value} {T : TypeId} (h : Fr w0 w wc g s0 s1 s2 s3 gb cs T) (x : Int) : Fr w0 w (wc.setCell ⟨g, 1, none⟩ (.int .i64 x)) g s0 x s2 s3 gb cs T :=
  ⟨h.i.set_1 x, below_set h.b h.i.ge, h.k.set_ 1 _, h.ge, h.lt, h.ne, blk_far h.box h.ne _⟩
theorem Fr.call {w0 w wc w2 : World} {g : Nat} {s0 : List S28} {s1 s2 s3 r1 r2 r3 : Int} {gb : Nat} {cs : Array Value} {T : TypeId} (h : Fr w0 w wc g s0 s1 s2 s3 gb cs T)
    (hi : IsS74 w0 w2 g s0 r1 r2 r3) (hb : Below w0.heap.size w0 w2) (hk : KeepBut wc w2 g none) : Fr w0 w w2 g s0 r1 r2 r3 gb cs T :=
  ⟨hi, hb, h.k.trans hk (.inl rfl), h.ge, h.lt, h.ne, KeepBut.blk hk h.box h.ne (by simp)⟩
theorem Fr.quiet {w0 w wc w2 : World} {g : Nat} {s0 : List S28} {s1 s2 s3 : Int} {gb : Nat} {cs : Array Value} {T : TypeId} (h : Fr w0 w wc g s0 s1 s2 s3 gb cs T)
    (hb : Below wc.heap.size wc w2) : Fr w0 w w2 g s0 s1 s2 s3 gb cs T :=
  h.call (h.i.below hb) (below_weaken h.b h.b.size hb) (KeepBut.of_below hb g none)
theorem Fr.facts {w0 w wc : World} {g : Nat} {s0 : List S28} {s1 s2 s3 : Int} {gb : Nat} {cs : Array Value} {T : TypeId} (h : Fr w0 w wc g s0 s1 s2 s3 gb cs T) :
    ∃ A c, wc.cell? ⟨g, 0, none⟩ = some (.slice A s0.length c) ∧ wc.cell? ⟨g, 1, none⟩ = some (.int .i64 s1) ∧ wc.cell? ⟨g, 2, none⟩ = some (.int .i64 s2) ∧ wc.cell? ⟨g, 3, none⟩ = some (.int .i64 s3) ∧
      wc.frozen? ⟨g, 1, none⟩ = false ∧ wc.frozen? ⟨g, 3, none⟩ = false ∧ Kd.C k28 wc A s0.length s0 := by
  obtain ⟨A, c, hb, hg, hC⟩ := h.i
  exact ⟨A, c, cellS74_0 hb, cellS74_1 hb, cellS74_2 hb, cellS74_3 hb, blk_frozen hb 1, blk_frozen hb 3, Kd.C_below hC h.b⟩
theorem Fr.five {w0 w wc : World} {g : Nat} {s0 : List S28} {s1 s2 s3 : Int} {gb : Nat} {a0 a1 a2 a3 a4 : Value} {T : TypeId} (h : Fr w0 w wc g s0 s1 s2 s3 gb #[a0, a1, a2, a3, a4] T) (b0 b1 b2 b3 b4 : Value) :
    Fr w0 w (((((wc.setCell ⟨gb, 0, none⟩ b0).setCell ⟨gb, 1, none⟩ b1).setCell ⟨gb, 2, none⟩ b2).setCell ⟨gb, 3, none⟩ b3).setCell ⟨gb, 4, none⟩ b4) g s0 s1 s2 s3 gb #[b0, b1, b2, b3, b4] T :=
  ((((h.put 0 b0 rfl).put 1 b1 rfl).put 2 b2 rfl).put 3 b3 rfl).put 4 b4 rfl
theorem Fr.three {w0 w wc : World} {g : Nat} {s0 : List S28} {s1 s2 s3 : Int} {gb : Nat} {a0 a1 a2 : Value} {T : TypeId} (h : Fr w0 w wc g s0 s1 s2 s3 gb #[a0, a1, a2] T) (b0 b1 b2 : Value) :
    Fr w0 w (((wc.setCell ⟨gb, 0, none⟩ b0).setCell ⟨gb, 1, none⟩ b1).setCell ⟨gb, 2, none⟩ b2) g s0 s1 s2 s3 gb #[b0, b1, b2] T :=
  ((h.put 0 b0 rfl).put 1 b1 rfl).put 2 b2 rfl

end Go.Proofs.Ytokkjnfdfbpphaa.A
namespace Go.Proofs.Ytokkjnfdfbpphaa.A
open Go.RowKit Go.Proofs.YtokkjnfdfbpphaaW.PrintWords Go.Proofs.YtokkjnfdfbpphaaW.PrintLast Go.Proofs.YtokkjnfdfbpphaaW.PrintMore
attribute [local go_sem] max2_int min2_int max_two min_two max_three min_three max_four min_four   -- for this text's walks alone
set_option linter.unusedVariables false
set_option linter.unusedSimpArgs false

/-! ### say_parser_value: function 33 -/
def say_parser_value.f (k : Nat) (s0_0 : List (S28)) (s0_1 : Int) (s0_2 : Int) (s0_3 : Int) : Option (Int × Bool × Int × Int × ByteArray × Int × Int × Int) :=
  if s0_3 ≥ 0 then (say_parser_fail.f s0_0 s0_1 s0_2 s0_3).bind fun q => some (0, false, 0, 0, (⟨#[]⟩ : ByteArray), q.1, q.2.1, q.2.2)
  else if s0_1 ≥ (s0_0.length : Int) then (say_parser_fail.f s0_0 s0_1 s0_2 s0_3).bind fun q => some (0, false, 0, 0, (⟨#[]⟩ : ByteArray), q.1, q.2.1, q.2.2)
  else if 0 ≤ s0_1 then
    (if (rd_T28 s0_0 s0_1).f0 = 1 then (say_parser_number.f s0_0 s0_1 s0_2 s0_3).bind fun q => some (2, false, q.1, 0, (⟨#[]⟩ : ByteArray), q.2.1, q.2.2.1, q.2.2.2)
    else if (rd_T28 s0_0 s0_1).f0 = 2 then some (4, false, 0, 0, (rd_T28 s0_0 s0_1).f1, wrap64 (s0_1 + 1), s0_2, s0_3)
    else if (rd_T28 s0_0 s0_1).f0 = 0 then say_parser_word.f k s0_0 s0_1 s0_2 s0_3 (rd_T28 s0_0 s0_1).f1
    else (say_parser_fail.f s0_0 s0_1 s0_2 s0_3).bind fun q => some (0, false, 0, 0, (⟨#[]⟩ : ByteArray), q.1, q.2.1, q.2.2))
  else none
theorem say_parser_value.mono : ∀ a0 a1 a2 a3 k, LeO (say_parser_value.f k a0 a1 a2 a3) (say_parser_value.f (k + 1) a0 a1 a2 a3) := by
  intro a0 a1 a2 a3 k
  unfold say_parser_value.f
  repeat' first
    | (with_reducible exact LeO.refl _)
    | (with_reducible exact LeO.none _)
    | (with_reducible exact say_parser_word.mono _ _ _ _ _ _)
    | (with_reducible refine LeO.ite ?_ ?_)
    | (with_reducible refine LeO.bind ?_ (fun _ => ?_))
theorem val5 {w : World} {b : Nat} {a0 a1 a2 a3 a4 : Value} {T : TypeId} (h : w.heap[b]? = some (.cells #[a0, a1, a2, a3, a4] T (0, 0))) :
    w.cell? ⟨b, 0, none⟩ = some a0 ∧ w.cell? ⟨b, 1, none⟩ = some a1 ∧ w.cell? ⟨b, 2, none⟩ = some a2 ∧ w.cell? ⟨b, 3, none⟩ = some a3 ∧ w.cell? ⟨b, 4, none⟩ = some a4 ∧
    w.frozen? ⟨b, 0, none⟩ = false ∧ w.frozen? ⟨b, 1, none⟩ = false ∧ w.frozen? ⟨b, 2, none⟩ = false ∧ w.frozen? ⟨b, 3, none⟩ = false ∧ w.frozen? ⟨b, 4, none⟩ = false :=
  ⟨(blk_cell h 0).trans rfl, (blk_cell h 1).trans rfl, (blk_cell h 2).trans rfl, (blk_cell h 3).trans rfl, (blk_cell h 4).trans rfl, blk_frozen h 0, blk_frozen h 1, blk_frozen h 2, blk_frozen h 3, blk_frozen h 4⟩
set_option maxRecDepth 100000 in
set_option maxHeartbeats 4000000 in
theorem say_parser_value.calls (k : Nat) (g : Nat) (s0_0 : List (S28)) (s0_1 : Int) (s0_2 : Int) (s0_3 : Int) (r1 : Int) (r2 : Bool) (r3 : Int) (r4 : Int) (r5 : ByteArray) (r6 : Int) (r7 : Int) (r8 : Int) (w0 w : World) (hI : IsS74 w0 w g s0_0 s0_1 s0_2 s0_3) (hB : Below w0.heap.size w0 w) (h : say_parser_value.f k s0_0 s0_1 s0_2 s0_3 = some (r1, r2, r3, r4, r5, r6, r7, r8)) :
    Calls Try.prog 33 #[.pointer (some ⟨g, 0, none⟩)] w fun e w' => e = .returned (.agg #[.int .i64 r1, .bool r2, .int .i64 r3, .int .u64 r4, .string r5]) ∧ IsS74 w0 w' g s0_0 r6 r7 r8 ∧ Below w0.heap.size w0 w' ∧ KeepBut w w' g none := by
  unfold say_parser_value.f at h
  have hlt : g < w.heap.size := IsS74.lt hI
  have HS0 := Aside0.mk (Fr.start hI hB #[.int .i64 0, .bool false, .int .i64 0, .int .u64 0, .string ⟨#[]⟩] 33)
  clear hI hB
  obtain ⟨A0, c0, hc0, hc1, hc2, hc3, hz1, hz3, hC⟩ := HS0.out.facts
  by_cases h3 : s0_3 ≥ 0
  · rw [if_pos h3] at h
    obtain ⟨⟨q1, q2, q3⟩, hq, h⟩ := Option.bind_eq_some_iff.mp h
    simp only [Option.some.injEq, Prod.mk.injEq] at h
    obtain ⟨rfl, rfl, rfl, rfl, rfl, rfl, rfl, rfl⟩ := h
    have HQ := Aside0.mk hq
    have hd3 : decide (0 ≤ s0_3) = true := decide_eq_true h3
    clear hq hC
    go_enter Try.func33, Try.ntmps33
    go_wp2_with fail
    go_quiet (fail)
    have HF := Aside0.mk (HS0.out.drewN nq)
    clear hc0 hc1 hc2 hc3 hz1 hz3 HS0
    revert HF
    generalize World.drewN _ nq = W
    intro HF
    go_wp2_with fail
    refine (say_parser_fail.calls g s0_0 s0_1 s0_2 s0_3 _ _ _ w0 _ HF.out.i HF.out.b HQ.out).mono ?_
    rintro e w2 ⟨rfl, hi, hb2, hk⟩
    replace HF := Aside0.mk (HF.out.call hi hb2 hk)
    clear hi hb2 hk HQ
    obtain ⟨z0, z1, z2, z3, z4, y0, y1, y2, y3, y4⟩ := val5 HF.out.box
    go_wp2_with fail
    refine bodyPost_ret (results_cell_row rfl _ _ _ 33 _ (0, 0) _ rfl (HF.out.five _ _ _ _ _).box Try.underlying33 rfl (by kernel_rfl)) rfl ⟨rfl, (HF.out.five _ _ _ _ _).i, (HF.out.five _ _ _ _ _).b, (HF.out.five _ _ _ _ _).k⟩
  · rw [if_neg h3] at h
    have hd3 : decide (0 ≤ s0_3) = false := decide_eq_false h3
    by_cases h1 : s0_1 ≥ (s0_0.length : Int)
    · rw [if_pos h1] at h
      obtain ⟨⟨q1, q2, q3⟩, hq, h⟩ := Option.bind_eq_some_iff.mp h
      simp only [Option.some.injEq, Prod.mk.injEq] at h
      obtain ⟨rfl, rfl, rfl, rfl, rfl, rfl, rfl, rfl⟩ := h
      have HQ := Aside0.mk hq
      have hd1 : decide ((s0_0.length : Int) ≤ s0_1) = true := decide_eq_true h1
      clear hq hC
      go_enter Try.func33, Try.ntmps33
      go_wp2_with fail
      go_quiet (fail)
      have HF := Aside0.mk (HS0.out.drewN nq)
      clear hc0 hc1 hc2 hc3 hz1 hz3 HS0
      revert HF
      generalize World.drewN _ nq = W
      intro HF
      go_wp2_with fail
      refine (say_parser_fail.calls g s0_0 s0_1 s0_2 s0_3 _ _ _ w0 _ HF.out.i HF.out.b HQ.out).mono ?_
      rintro e w2 ⟨rfl, hi, hb2, hk⟩
      replace HF := Aside0.mk (HF.out.call hi hb2 hk)
      clear hi hb2 hk HQ
      obtain ⟨z0, z1, z2, z3, z4, y0, y1, y2, y3, y4⟩ := val5 HF.out.box
      go_wp2_with fail
      refine bodyPost_ret (results_cell_row rfl _ _ _ 33 _ (0, 0) _ rfl (HF.out.five _ _ _ _ _).box Try.underlying33 rfl (by kernel_rfl)) rfl ⟨rfl, (HF.out.five _ _ _ _ _).i, (HF.out.five _ _ _ _ _).b, (HF.out.five _ _ _ _ _).k⟩
    · rw [if_neg h1] at h
      have hd1 : decide ((s0_0.length : Int) ≤ s0_1) = false := decide_eq_false h1
      by_cases h0 : 0 ≤ s0_1
      · rw [if_pos h0] at h
        have hl : decide (s0_1 < (s0_0.length : Int)) = true := by simp; omega
        have hp : decide (0 ≤ s0_1) = true := by simp [h0]
        have H := Aside0.mk h
        clear h
        clear hC
        go_enter Try.func33, Try.ntmps33
        go_wp2_with fail
        go_quiet (fail)
        have HF := Aside0.mk (HS0.out.drewN nq)
        clear hc0 hc1 hc2 hc3 hz1 hz3 HS0
        revert HF
        generalize World.drewN _ nq = W
        intro HF
        obtain ⟨A1, c1, hc0, hc1, hc2, hc3, hz1, hz3, hC⟩ := HF.out.facts
        obtain ⟨ad, rfl, g0, g1, g2⟩ := at_T28 hC s0_1 h0 (by omega)
        have HA := below_alloc (Below.refl W.heap.size W) (.cells #[.int .i64 0, .string ⟨#[]⟩, .int .i64 0] 28)
        have g0a := pw_cell_below HA g0
        have g1a := pw_cell_below HA g1
        have g2a := pw_cell_below HA g2
        have hc0a := pw_cell_below HA hc0
        have hc1a := pw_cell_below HA hc1
        clear HA
        have gn : W.heap.size ≠ g := fun e => by have := HF.out.i.lt; omega
        obtain ⟨t0, t1, t2, u0, u1, u2⟩ := tok3 (blk_new W (.cells #[.int .i64 0, .string ⟨#[]⟩, .int .i64 0] 28))
        go_wp2_with fail
        go_region
        have HT := Aside0.mk (blk_drew (blk_new W (.cells #[.int .i64 (rd_T28 s0_0 s0_1).f0, .string (rd_T28 s0_0 s0_1).f1, .int .i64 (rd_T28 s0_0 s0_1).f2] 28)))
        replace HF := Aside0.mk (HF.out.alloc (.cells #[.int .i64 (rd_T28 s0_0 s0_1).f0, .string (rd_T28 s0_0 s0_1).f1, .int .i64 (rd_T28 s0_0 s0_1).f2] 28)).drew
        have HG : Aside0 (W.heap.size ≠ g) := ⟨gn⟩
        clear hc0 hc1 hc2 hc3 hz1 hz3 g0 g1 g2 g0a g1a g2a hc0a hc1a t0 t1 t2 u0 u1 u2 hC gn
        revert HF HT HG
        generalize World.drew _ = W2
        generalize W.heap.size = gt
        generalize (rd_T28 s0_0 s0_1).f0 = F0 at H ⊢
        generalize (rd_T28 s0_0 s0_1).f1 = F1 at H ⊢
        generalize (rd_T28 s0_0 s0_1).f2 = F2
        intro HT HF HG
        obtain ⟨t0, t1, t2, u0, u1, u2⟩ := tok3 HT.out
        obtain ⟨A1, c1, hc0, hc1, hc2, hc3, hz1, hz3, hC⟩ := HF.out.facts
        by_cases e1 : F0 = 1
        · subst e1
          obtain ⟨⟨q0, q1, q2, q3⟩, hq, h⟩ := Option.bind_eq_some_iff.mp ((if_pos rfl).symm.trans H.out)
          simp only [Option.some.injEq, Prod.mk.injEq] at h
          obtain ⟨rfl, rfl, rfl, rfl, rfl, rfl, rfl, rfl⟩ := h
          have HQ := Aside0.mk hq
          clear hq hC H
          go_wp2_with fail
          refine (say_parser_number.calls g s0_0 s0_1 s0_2 s0_3 _ _ _ _ w0 _ HF.out.i HF.out.b HQ.out).mono ?_
          rintro e w2 ⟨rfl, hi, hb2, hk⟩
          replace HF := Aside0.mk (HF.out.call hi hb2 hk)
          clear hi hb2 hk HQ
          obtain ⟨z0, z1, z2, z3, z4, y0, y1, y2, y3, y4⟩ := val5 HF.out.box
          go_wp2_with fail
          refine bodyPost_ret (results_cell_row rfl _ _ _ 33 _ (0, 0) _ rfl (HF.out.five _ _ _ _ _).box Try.underlying33 rfl (by kernel_rfl)) rfl ⟨rfl, (HF.out.five _ _ _ _ _).i, (HF.out.five _ _ _ _ _).b, (HF.out.five _ _ _ _ _).k⟩
        · replace H := Aside0.mk ((if_neg e1).symm.trans H.out)
          have b1 : (F0 == 1) = false := by simpa using e1
          by_cases e2 : F0 = 2
          · subst e2
            have h := (if_pos rfl).symm.trans H.out
            simp only [Option.some.injEq, Prod.mk.injEq] at h
            obtain ⟨rfl, rfl, rfl, rfl, rfl, rfl, rfl, rfl⟩ := h
            clear hC H
            have ng := HF.out.ne
            have ng2 := HG.out
            have HF2 := Aside0.mk (HF.out.set_1 (wrap64 (s0_1 + 1)))
            obtain ⟨z0, z1, z2, z3, z4, y0, y1, y2, y3, y4⟩ := val5 HF.out.box
            go_wp2_with fail
            refine bodyPost_ret (results_cell_row rfl _ _ _ 33 _ (0, 0) _ rfl (HF2.out.five _ _ _ _ _).box Try.underlying33 rfl (by kernel_rfl)) rfl ⟨rfl, (HF2.out.five _ _ _ _ _).i, (HF2.out.five _ _ _ _ _).b, (HF2.out.five _ _ _ _ _).k⟩
          · replace H := Aside0.mk ((if_neg e2).symm.trans H.out)
            have b2 : (F0 == 2) = false := by simpa using e2
            by_cases e0 : F0 = 0
            · subst e0
              have HQ := Aside0.mk ((if_pos rfl).symm.trans H.out)
              clear hC H
              go_wp2_with fail
              refine (say_parser_word.calls k g s0_0 s0_1 s0_2 s0_3 F1 _ _ _ _ _ _ _ _ w0 _ HF.out.i HF.out.b HQ.out).mono ?_
              rintro e w2 ⟨rfl, hi, hb2, hk⟩
              replace HF := Aside0.mk (HF.out.call hi hb2 hk)
              clear hi hb2 hk HQ
              obtain ⟨z0, z1, z2, z3, z4, y0, y1, y2, y3, y4⟩ := val5 HF.out.box
              go_wp2_with fail
              refine bodyPost_ret (results_cell_row rfl _ _ _ 33 _ (0, 0) _ rfl (HF.out.five _ _ _ _ _).box Try.underlying33 rfl (by kernel_rfl)) rfl ⟨rfl, (HF.out.five _ _ _ _ _).i, (HF.out.five _ _ _ _ _).b, (HF.out.five _ _ _ _ _).k⟩
            · obtain ⟨⟨q1, q2, q3⟩, hq, h⟩ := Option.bind_eq_some_iff.mp ((if_neg e0).symm.trans H.out)
              simp only [Option.some.injEq, Prod.mk.injEq] at h
              obtain ⟨rfl, rfl, rfl, rfl, rfl, rfl, rfl, rfl⟩ := h
              have HQ := Aside0.mk hq
              have b0 : (F0 == 0) = false := by simpa using e0
              clear hq hC H
              go_wp2_with fail
              refine (say_parser_fail.calls g s0_0 s0_1 s0_2 s0_3 _ _ _ w0 _ HF.out.i HF.out.b HQ.out).mono ?_
              rintro e w2 ⟨rfl, hi, hb2, hk⟩
              replace HF := Aside0.mk (HF.out.call hi hb2 hk)
              clear hi hb2 hk HQ
              obtain ⟨z0, z1, z2, z3, z4, y0, y1, y2, y3, y4⟩ := val5 HF.out.box
              go_wp2_with fail
              refine bodyPost_ret (results_cell_row rfl _ _ _ 33 _ (0, 0) _ rfl (HF.out.five _ _ _ _ _).box Try.underlying33 rfl (by kernel_rfl)) rfl ⟨rfl, (HF.out.five _ _ _ _ _).i, (HF.out.five _ _ _ _ _).b, (HF.out.five _ _ _ _ _).k⟩
      · rw [if_neg h0] at h
        exact absurd h (by simp)

end Go.Proofs.Ytokkjnfdfbpphaa.A
namespace Go.Proofs.Ytokkjnfdfbpphaa.A
open Go.RowKit Go.Proofs.YtokkjnfdfbpphaaW.PrintWords Go.Proofs.YtokkjnfdfbpphaaW.PrintLast Go.Proofs.YtokkjnfdfbpphaaW.PrintMore
attribute [local go_sem] max2_int min2_int max_two min_two max_three min_three max_four min_four   -- for this text's walks alone
set_option linter.unusedVariables false
set_option linter.unusedSimpArgs false

/-! what stands in a list of tokens is read -/
abbrev Tks := List (Int × List UInt8)
def Stands (s0 : List S28) (n : Nat) (ts : Tks) : Prop := ts <+: (s0.drop n).map tkOf
theorem Stands.cons {s0 : List S28} {n : Nat} {k : Int} {t : List UInt8} {ts : Tks} (h : Stands s0 n ((k, t) :: ts)) :
    n < s0.length ∧ (rd_T28 s0 (n : Int)).f0 = k ∧ (rd_T28 s0 (n : Int)).f1 = ⟨t.toArray⟩ ∧ Stands s0 (n + 1) ts := by
  unfold Stands at h
  by_cases hn : n < s0.length
  · rw [List.drop_eq_getElem_cons hn, List.map_cons, List.cons_prefix_cons] at h
    obtain ⟨h1, h2⟩ := h
    have e : rd_T28 s0 (n : Int) = s0[n] := by simp [rd_T28, List.getD_eq_getElem?_getD, hn]
    rw [e]
    simp only [tkOf, Prod.mk.injEq] at h1
    exact ⟨hn, h1.1.symm, ba_ext h1.2.symm, h2⟩
  · rw [List.drop_eq_nil_of_le (by omega)] at h
    simp at h
theorem Stands.append {s0 : List S28} {n : Nat} {a b : Tks} (h : Stands s0 n (a ++ b)) : Stands s0 n a ∧ Stands s0 (n + a.length) b := by
  unfold Stands at *
  obtain ⟨r, hr⟩ := h
  refine ⟨⟨b ++ r, by rw [← List.append_assoc, hr]⟩, ⟨r, ?_⟩⟩
  rw [← List.drop_drop, List.map_drop, ← hr]
  simp
theorem Stands.le {s0 : List S28} {n : Nat} {a : Tks} (h : Stands s0 n a) (ha : a ≠ []) : n + a.length ≤ s0.length := by
  have := h.length_le
  rw [List.length_map, List.length_drop] at this
  have : 0 < a.length := List.length_pos_iff.2 ha
  omega
theorem wrap_small (n : Nat) (h : n ≤ 1000000) : wrap64 ((n : Int) + 1) = ((n + 1 : Nat) : Int) := by unfold wrap64; omega
theorem take_ok {s0 : List S28} {n : Nat} {k : Int} {t : List UInt8} {ts : Tks} (e : Int) (h : Stands s0 n ((k, t) :: ts)) (hl : s0.length ≤ 1000000) :
    say_parser_take.f s0 n e (-1) k = some (⟨t.toArray⟩, ((n + 1 : Nat) : Int), e, -1) := by
  obtain ⟨h1, h2, h3, _⟩ := h.cons
  unfold say_parser_take.f
  have w : wrap64 (((n + 1 : Nat) : Int) - 1) = (n : Int) := by unfold wrap64; omega
  rw [if_neg (by decide), if_neg (by omega), if_pos (by omega), if_pos (by omega), if_pos h2, wrap_small n (by omega), w, if_pos (by omega), if_pos (by omega), h3]
theorem peek_yes {s0 : List S28} {n : Nat} {t : List UInt8} {ts : Tks} (e : Int) (h : Stands s0 n ((3, t) :: ts)) : say_parser_peek.f s0 n e (-1) ⟨t.toArray⟩ = some (true, (n : Int), e, -1) := by
  obtain ⟨h1, h2, h3, _⟩ := h.cons
  unfold say_parser_peek.f
  rw [if_pos (by decide), if_pos (by omega), if_pos (by omega), if_pos h2, h3]; simp
theorem mark_ok {s0 : List S28} {n : Nat} {t : List UInt8} {ts : Tks} (e : Int) (h : Stands s0 n ((3, t) :: ts)) (hl : s0.length ≤ 1000000) : say_parser_mark.f s0 n e (-1) ⟨t.toArray⟩ = some (((n + 1 : Nat) : Int), e, -1) := by
  have h1 := h.cons.1
  unfold say_parser_mark.f
  rw [peek_yes e h]
  simp only [Option.bind_some, if_true]
  rw [wrap_small n (by omega)]
theorem peek_no {s0 : List S28} {n : Nat} {k : Int} {t m : List UInt8} {ts : Tks} (e : Int) (h : Stands s0 n ((k, t) :: ts)) (hne : k ≠ 3 ∨ t ≠ m) : say_parser_peek.f s0 n e (-1) ⟨m.toArray⟩ = some (false, (n : Int), e, -1) := by
  obtain ⟨h1, h2, h3, _⟩ := h.cons
  unfold say_parser_peek.f
  rw [if_pos (by decide), if_pos (by omega), if_pos (by omega)]
  by_cases hk : k = 3
  · rw [if_pos (by rw [h2, hk]), h3]
    have : t ≠ m := hne.resolve_left (fun f => f hk)
    simp [this]
  · rw [if_neg (by rw [h2]; exact hk)]
theorem number_ok {s0 : List S28} {n : Nat} {x : Int} {ts : Tks} (e : Int) (h : Stands s0 n ((1, intText x) :: ts)) (hl : s0.length ≤ 1000000) (h1 : -9223372036854775808 ≤ x) (h2 : x < 9223372036854775808) :
    say_parser_number.f s0 n e (-1) = some (x, ((n + 1 : Nat) : Int), e, -1) := by
  unfold say_parser_number.f
  rw [take_ok e h hl]
  have hp : 0 < (intText x).length := List.length_pos_iff.2 (intText_ne x)
  simp only [Option.bind_some]
  rw [if_neg (by decide), if_pos (by show 0 < Array.size _; simpa using hp), numVal_int x h1 h2]
theorem count_ok {s0 : List S28} {n : Nat} {x : Nat} {ts : Tks} (e : Int) (k : Nat) (hk : 1 ≤ k) (h : Stands s0 n ((1, dec x) :: ts)) (hl : s0.length ≤ 1000000) (h2 : x < 18446744073709551616) :
    say_parser_count.f k s0 n e (-1) = some ((x : Int), ((n + 1 : Nat) : Int), e, -1) := by
  obtain ⟨k, rfl⟩ : ∃ m, k = m + 1 := ⟨k - 1, by omega⟩
  unfold say_parser_count.f
  rw [take_ok e h hl]
  have hd : say_digits.f ⟨(dec x).toArray⟩ = some ((x : Int), true) := by
    unfold say_digits.f
    show (match digitsOf (dec x) with | some n => _ | none => _) = _
    rw [digitsOf_dec x h2]
  simp only [Option.bind_some]
  rw [hd]
  simp only [Option.bind_some]
  rw [if_pos (by decide), say_parser_count.j0]; rfl
theorem nibble_hex (n : Nat) (h : n < 16) : say_nibble.f ((hexDigit n).toNat : Int) = some (n : Int) := by
  have key : ∀ m : Fin 16, say_nibble.f ((hexDigit m.1).toNat : Int) = some (m.1 : Int) := by decide
  exact key ⟨n, h⟩
theorem hexLow_get (b j : Nat) (h : j < 16) : (hex16 b)[j]'(by rw [show (hex16 b).length = 16 from hexTop_length b 16]; exact h) = hexD b (15 - j) := by simp [hex16, hexTop]
theorem or_hex (a d : Nat) (ha : a < 1152921504606846976) (hd : d < 16) : Go.bits .or .u64 (IntKind.u64.wrap ((a : Int) * 16)) (IntKind.u64.wrap (d : Int)) = ((a * 16 + d : Nat) : Int) := by
  rw [wraps_u64 _ (by omega) (by omega), wraps_u64 _ (by omega) (by omega)]
  rw [bits_join .u64 64 (by decide) wraps_u64 4 ((a : Int) * 16) (d : Int) (by omega) (by omega) (by omega) (by omega) (by omega) (by omega)]
  omega
theorem float_loop {s0 : List S28} {n : Nat} {ts : Tks} (e at_ : Int) (b : Nat) (hb : b < 18446744073709551616) (h : Stands s0 n ((3, [41]) :: ts)) (hl : s0.length ≤ 1000000) :
    ∀ (i j k : Nat), j + i = 16 → i < k → say_parser_float.l0 k at_ ⟨(hex16 b).toArray⟩ 16 (j : Int) s0 n e (-1) 3 false 0 ((b / 16 ^ (16 - j) : Nat) : Int) ⟨#[]⟩ = some (3, false, 0, (b : Int), ⟨#[]⟩, ((n + 1 : Nat) : Int), e, -1) := by
  have hsz : (⟨(hex16 b).toArray⟩ : ByteArray).size = 16 := hexTop_length b 16
  intro i
  induction i with
  | zero =>
    intro j k hj hk
    obtain ⟨k, rfl⟩ : ∃ m, k = m + 1 := ⟨k - 1, by omega⟩
    obtain rfl : j = 16 := by omega
    rw [say_parser_float.l0, if_neg (by decide), if_neg (by
      intro h0
      have : (⟨(hex16 b).toArray⟩ : ByteArray).toList.length = 16 := by rw [Lib.toList_data]; exact hexTop_length b 16
      rw [h0] at this; exact absurd this (by decide))]
    rw [show (⟨#[41]⟩ : ByteArray) = ⟨[41].toArray⟩ from rfl, mark_ok e h hl]
    simp
  | succ i ih =>
    intro j k hj hk
    obtain ⟨k, rfl⟩ : ∃ m, k = m + 1 := ⟨k - 1, by omega⟩
    rw [say_parser_float.l0, if_pos (by omega), if_pos (by omega), if_pos (by rw [hsz]; omega)]
    have hbt : bt ⟨(hex16 b).toArray⟩ (j : Int) = ((hexD b (15 - j)).toNat : Int) := by
      rw [← hexLow_get b j (by omega)]
      unfold bt
      rw [dif_pos (by rw [hsz]; omega)]
      rfl
    rw [hbt]
    unfold hexD
    rw [nibble_hex _ (Nat.mod_lt _ (by decide))]
    simp only [Option.bind_some]
    rw [if_neg (by omega), if_pos (by rw [hsz]; rfl)]
    have hsm : b / 16 ^ (16 - j) < 1152921504606846976 := by
      have : b / 16 ^ (16 - j) ≤ b / 16 := by
        rw [show 16 - j = 1 + i by omega, Nat.pow_add, Nat.pow_one, ← Nat.div_div_eq_div_mul]
        exact Nat.div_le_self _ _
      omega
    rw [or_hex _ _ hsm (Nat.mod_lt _ (by decide))]
    have e1 : b / 16 ^ (16 - j) * 16 + b / 16 ^ (15 - j) % 16 = b / 16 ^ (16 - (j + 1)) := by
      rw [show 16 - j = (15 - j) + 1 by omega, Nat.pow_succ, ← Nat.div_div_eq_div_mul, show 16 - (j + 1) = 15 - j by omega]
      omega
    rw [e1, show wrap64 ((j : Int) + 1) = ((j + 1 : Nat) : Int) from wrap_small j (by omega)]
    exact ih (j + 1) k (by omega) (by omega)
def valText (x : S33) : List UInt8 :=
  if x.f0 = 0 then [110, 117, 108, 108] else if x.f0 = 1 then (if x.f1 = true then [116, 114, 117, 101] else [102, 97, 108, 115, 101]) else if x.f0 = 2 then intText x.f2 else if x.f0 = 3 then floatText x.f3.toNat
  else if x.f0 = 4 then quoted x.f4.data.toList else [110, 111, 110, 101]
def valToks (x : S33) : Tks :=
  if x.f0 = 0 then [(0, [110, 117, 108, 108])] else if x.f0 = 1 then [(0, if x.f1 = true then [116, 114, 117, 101] else [102, 97, 108, 115, 101])] else if x.f0 = 2 then [(1, intText x.f2)]
  else if x.f0 = 3 then [(0, [102, 108, 111, 97, 116]), (3, [40]), (2, hex16 x.f3.toNat), (3, [41])] else if x.f0 = 4 then [(2, x.f4.data.toList)] else [(0, [110, 111, 110, 101])]
structure Okv (x : S33) : Prop where
  i0 : -9223372036854775808 ≤ x.f2
  i1 : x.f2 < 9223372036854775808
  b0 : 0 ≤ x.f3
  b1 : x.f3 < 18446744073709551616
  t : x.f4.size ≤ 1000000
theorem Lexes.val (x : S33) : Lexes false (valText x) (valToks x) := by
  unfold valText valToks
  by_cases h0 : x.f0 = 0
  · rw [if_pos h0, if_pos h0]; exact Lexes.word _ _ (by decide) (by decide)
  rw [if_neg h0, if_neg h0]
  by_cases h1 : x.f0 = 1
  · rw [if_pos h1, if_pos h1]
    cases x.f1
    · exact Lexes.word _ _ (by decide) (by decide)
    · exact Lexes.word _ _ (by decide) (by decide)
  rw [if_neg h1, if_neg h1]
  by_cases h2 : x.f0 = 2
  · rw [if_pos h2, if_pos h2]; exact Lexes.int _
  rw [if_neg h2, if_neg h2]
  by_cases h3 : x.f0 = 3
  · rw [if_pos h3, if_pos h3]
    have a := Lexes.append (Lexes.word 102 [108, 111, 97, 116] (by decide) (by decide)) (Lexes.append (Lexes.mark 40 (by decide)) (Lexes.append (Lexes.quote (hex16 x.f3.toNat)) (Lexes.mark 41 (by decide)) (.inl rfl)) (.inl rfl)) (.inr ⟨by simp, by show isWord 40 = false; decide⟩)
    have e : floatText x.f3.toNat = [102, 108, 111, 97, 116] ++ ([40] ++ (quoted (hex16 x.f3.toNat) ++ [41])) := by simp [floatText]
    rw [e]
    exact a.weak
  rw [if_neg h3, if_neg h3]
  by_cases h4 : x.f0 = 4
  · rw [if_pos h4, if_pos h4]; exact (Lexes.quote _).weak
  rw [if_neg h4, if_neg h4]
  exact Lexes.word _ _ (by decide) (by decide)
/-- What a script can say of a value. -/
def saidV (x : S33) : S33 := ⟨x.f0, if x.f0 = 1 then x.f1 else false, if x.f0 = 2 then x.f2 else 0, if x.f0 = 3 then x.f3 else 0, if x.f0 = 4 then x.f4 else ⟨#[]⟩⟩
theorem value_ok {s0 : List S28} {n : Nat} {ts : Tks} (e : Int) (x : S33) (k : Nat) (hk : 50 ≤ k) (hx : Okv x) (h : Stands s0 n (valToks x ++ ts)) (hl : s0.length ≤ 1000000) (h0 : 0 ≤ x.f0) (h5 : x.f0 ≤ 4) :
    say_parser_value.f k s0 n e (-1) = some ((saidV x).f0, (saidV x).f1, (saidV x).f2, (saidV x).f3, (saidV x).f4, ((n + (valToks x).length : Nat) : Int), e, -1) := by
  have hcase : x.f0 = 0 ∨ x.f0 = 1 ∨ x.f0 = 2 ∨ x.f0 = 3 ∨ x.f0 = 4 := by omega
  unfold say_parser_value.f
  rw [if_neg (by decide)]
  rcases hcase with hc | hc | hc | hc | hc
  · have ev : valToks x = [(0, [110, 117, 108, 108])] := by unfold valToks; rw [if_pos hc]
    rw [ev] at h ⊢
    obtain ⟨g1, g2, g3, _⟩ := h.cons
    rw [if_neg (by omega), if_pos (by omega), if_neg (by rw [g2]; decide), if_neg (by rw [g2]; decide), if_pos g2, g3]
    unfold say_parser_word.f
    rw [if_pos (by rw [Lib.toList_data]), wrap_small n (by omega)]
    simp [saidV, hc]
  · have ev : valToks x = [(0, if x.f1 = true then [116, 114, 117, 101] else [102, 97, 108, 115, 101])] := by unfold valToks; rw [if_neg (by omega), if_pos hc]
    rw [ev] at h ⊢
    obtain ⟨g1, g2, g3, _⟩ := h.cons
    rw [if_neg (by omega), if_pos (by omega), if_neg (by rw [g2]; decide), if_neg (by rw [g2]; decide), if_pos g2, g3]
    obtain ⟨k, rfl⟩ : ∃ m, k = m + 1 := ⟨k - 1, by omega⟩
    unfold say_parser_word.f
    cases hf : x.f1
    · rw [if_neg (by rw [Lib.toList_data]; decide), if_neg (by rw [Lib.toList_data]; decide), say_parser_word.j0, if_pos (by rw [Lib.toList_data]; decide), wrap_small n (by omega)]
      simp [saidV, hc, hf, Lib.toList_data]
    · rw [if_neg (by rw [Lib.toList_data]; decide), if_pos (by rw [Lib.toList_data]; decide), say_parser_word.j0, if_pos (by rw [Lib.toList_data]; decide), wrap_small n (by omega)]
      simp [saidV, hc, hf, Lib.toList_data]
  · have ev : valToks x = [(1, intText x.f2)] := by unfold valToks; rw [if_neg (by omega), if_neg (by omega), if_pos hc]
    rw [ev] at h ⊢
    obtain ⟨g1, g2, g3, _⟩ := h.cons
    rw [if_neg (by omega), if_pos (by omega), if_pos g2, number_ok e h hl hx.i0 hx.i1]
    simp [saidV, hc]
  · have ev : valToks x = [(0, [102, 108, 111, 97, 116]), (3, [40]), (2, hex16 x.f3.toNat), (3, [41])] := by unfold valToks; rw [if_neg (by omega), if_neg (by omega), if_neg (by omega), if_pos hc]
    rw [ev] at h ⊢
    obtain ⟨g1, g2, g3, ha⟩ := h.cons
    rw [if_neg (by omega), if_pos (by omega), if_neg (by rw [g2]; decide), if_neg (by rw [g2]; decide), if_pos g2, g3]
    obtain ⟨k, rfl⟩ : ∃ m, k = m + 1 := ⟨k - 1, by omega⟩
    unfold say_parser_word.f
    rw [if_neg (by rw [Lib.toList_data]; decide), if_neg (by rw [Lib.toList_data]; decide), say_parser_word.j0, if_neg (by rw [Lib.toList_data]; decide), if_pos (by rw [Lib.toList_data]), wrap_small n (by omega)]
    obtain ⟨_, _, _, hb⟩ := ha.cons
    obtain ⟨_, _, _, hd⟩ := hb.cons
    have hsz : (⟨(hex16 x.f3.toNat).toArray⟩ : ByteArray).size = 16 := hexTop_length _ 16
    have hF : say_parser_float.f k s0 ((n + 1 : Nat) : Int) e (-1) = some (3, false, 0, x.f3, ⟨#[]⟩, ((n + 3 + 1 : Nat) : Int), e, -1) := by
      unfold say_parser_float.f
      rw [show (⟨#[40]⟩ : ByteArray) = ⟨[40].toArray⟩ from rfl, mark_ok e ha hl]
      simp only [Option.bind_some]
      rw [take_ok e hb hl]
      simp only [Option.bind_some]
      rw [if_neg (by decide), hsz]
      have e16 : (16 : Nat) ^ 16 = 18446744073709551616 := by decide
      have hz : x.f3.toNat / 16 ^ 16 = 0 := Nat.div_eq_of_lt (by have := hx.b1; omega)
      have := float_loop (s0 := s0) (n := n + 3) e ((n + 1 + 1 : Nat) : Int) x.f3.toNat (by have := hx.b1; have := hx.b0; omega) hd hl 16 0 k (by omega) (by omega)
      rw [show 16 - 0 = 16 from rfl, hz] at this
      rw [show ((x.f3.toNat : Nat) : Int) = x.f3 from Int.toNat_of_nonneg hx.b0] at this
      exact this
    rw [hF]
    simp [saidV, hc]
    omega
  · have ev : valToks x = [(2, x.f4.data.toList)] := by unfold valToks; rw [if_neg (by omega), if_neg (by omega), if_neg (by omega), if_neg (by omega), if_pos hc]
    rw [ev] at h ⊢
    obtain ⟨g1, g2, g3, _⟩ := h.cons
    rw [if_neg (by omega), if_pos (by omega), if_neg (by rw [g2]; decide), if_pos g2, g3, wrap_small n (by omega)]
    simp [saidV, hc]

end Go.Proofs.Ytokkjnfdfbpphaa.A
namespace Go.Proofs.Ytokkjnfdfbpphaa.A
open Go.RowKit Go.Proofs.YtokkjnfdfbpphaaW.PrintWords Go.Proofs.YtokkjnfdfbpphaaW.PrintLast Go.Proofs.YtokkjnfdfbpphaaW.PrintMore
attribute [local go_sem] max2_int min2_int max_two min_two max_three min_three max_four min_four   -- for this text's walks alone
set_option linter.unusedVariables false
set_option linter.unusedSimpArgs false

theorem lexL_count : ∀ (n : Nat) (l : List UInt8) (p : Nat) (qs : List S28), lexL n l p = .ok qs → qs.length ≤ l.length
  | 0, l, p, qs, h => by simp [lexL] at h; subst h; simp
  | n + 1, l, p, qs, h => by
    rw [lexL] at h
    split at h
    · simp at h; subst h; simp
    · cases ht : tokL (l.drop (blankLen false l)) with
      | none => rw [ht] at h; simp at h
      | some q =>
        obtain ⟨k, t, j⟩ := q
        have hj := tokL_le _ k t j ht
        rw [List.length_drop] at hj
        rw [ht] at h
        dsimp only at h
        cases hr : lexL n (l.drop (blankLen false l + j)) (p + blankLen false l + j) with
        | error e => rw [hr] at h; simp [Except.map] at h
        | ok r =>
          rw [hr] at h
          simp only [Except.map, Except.ok.injEq] at h
          subst h
          have := lexL_count n _ _ r hr
          rw [List.length_drop] at this
          simp; omega
theorem tokens_some (s : ByteArray) (hs : s.size ≤ 65536) : (∃ l, lx s.data.toList 0 = .ok l ∧ say_Tokens.f s = some (l, 0, 0)) ∨ ∃ p, lx s.data.toList 0 = .error p ∧ say_Tokens.f s = some ([], (p : Int), 4) := by
  have e : lexed s = lx s.data.toList 0 := by rw [lexed_list]; exact lexL_lx _ _ _ (by simp)
  unfold say_Tokens.f
  rw [if_pos hs, e]
  cases h : lx s.data.toList 0 with
  | ok l => exact .inl ⟨l, rfl, rfl⟩
  | error p => exact .inr ⟨p, rfl, rfl⟩
theorem ba_length (s : ByteArray) : s.data.toList.length = s.size := by simp
theorem valText_length (x : S33) (hx : Okv x) : (valText x).length ≤ 4 * x.f4.size + 100 := by
  unfold valText
  have h1 := intText_length x.f2 hx.i0 hx.i1
  have h2 := floatText_length x.f3.toNat
  have h3 := quoted_le x.f4.data.toList
  have h4 : x.f4.data.toList.length = x.f4.size := by simp
  repeat' split
  all_goals first | omega | (simp only [List.length_cons, List.length_nil]; omega)
theorem Stands.self {l qs : List S28} {rest : List S28} {ts : Tks} (hq : qs.map tkOf = ts) (hl : l = qs ++ rest) : Stands l 0 (ts ++ rest.map tkOf) := by
  subst hl; subst hq
  exact ⟨[], by simp⟩

end Go.Proofs.Ytokkjnfdfbpphaa.A
namespace Go.Proofs.Ytokkjnfdfbpphaa.A
open Go.RowKit Go.Proofs.YtokkjnfdfbpphaaW.PrintWords Go.Proofs.YtokkjnfdfbpphaaW.PrintLast Go.Proofs.YtokkjnfdfbpphaaW.PrintMore
attribute [local go_sem] max2_int min2_int max_two min_two max_three min_three max_four min_four   -- for this text's walks alone
set_option linter.unusedVariables false
set_option linter.unusedSimpArgs false

/-- The steps' words, by their kinds. -/
def wordL : List (List UInt8) := [[], [97, 112, 112, 101, 110, 100], [103, 101, 116], [101, 114, 97, 115, 101], [100, 114, 111, 112], [104, 111, 108, 100], [114, 101, 108, 101, 97, 115, 101], [112, 111, 105, 110, 116], [116, 105, 99, 107], [115, 116, 101, 112], [115, 119, 101, 101, 112], [99, 114, 97, 115, 104], [97, 114, 109], [111, 112, 101, 110], [115, 104, 111, 119], [112, 114, 111, 118, 101]]
def wordV : Array Value := (wordL.map fun l => Value.string ⟨l.toArray⟩).toArray
set_option maxRecDepth 100000 in
set_option maxHeartbeats 4000000 in
theorem forms_calls (w : World) : Calls Try.prog 37 #[] w fun e w' => e = .returned (.agg wordV) ∧ Below w.heap.size w w' := by
  go_enter Try.func37, Try.ntmps37
  go_wp2_with fail
  refine bodyPost_ret (results_cell_row rfl _ _ w.heap.size 79 wordV (0, 0) _ rfl ?_ Try.underlying79 rfl (by kernel_rfl)) rfl ⟨rfl, ?_⟩
  · exact blk_new w (.cells wordV 79)
  · exact below_alloc (Below.refl _ _) _
theorem word_at (i : Nat) (f : List UInt8) (hf : wordL[i]? = some f) (w : World) : Sem.run Try.prog (Instr.index 79 (.agg wordV) (.int .i64 (i : Int))) w = .ok (.string ⟨f.toArray⟩) w := by
  have hl : i < 16 := by
    have := (List.getElem?_eq_some_iff.mp hf).1
    exact this
  have hv : wordV[i]? = some (.string ⟨f.toArray⟩) := by simp [wordV, hf]
  simp [Instr.index, run_underlying Try.underlying79, asIntOf, hl, go_sem]
  rw [hv]
  simp [go_sem]

end Go.Proofs.Ytokkjnfdfbpphaa.A
namespace Go.Proofs.Ytokkjnfdfbpphaa.A
open Go.RowKit Go.Proofs.YtokkjnfdfbpphaaW.PrintWords Go.Proofs.YtokkjnfdfbpphaaW.PrintLast Go.Proofs.YtokkjnfdfbpphaaW.PrintMore
attribute [local go_sem] max2_int min2_int max_two min_two max_three min_three max_four min_four   -- for this text's walks alone
set_option linter.unusedVariables false
set_option linter.unusedSimpArgs false

/-! steps, papers, names as texts -/
def qba (s : ByteArray) : ByteArray := ⟨(quoted s.data.toList).toArray⟩
def namesText (l : List ByteArray) : List UInt8 := 91 :: (Lib.join (l.map fun s => quoted s.data.toList) [44, 32] ++ [93])
def fieldText (f : S87) : List UInt8 := quoted f.f0.data.toList ++ [61] ++ valText f.f1
def paperText (p : S42) : List UInt8 := quoted p.f0.data.toList ++ [32] ++ intText p.f1 ++ [32, 40] ++ Lib.join (p.f2.map fieldText) [44, 32] ++ [41]
def argText (x : S45) (kind : Int) : List UInt8 :=
  if kind = 0 then quoted x.f2.data.toList else if kind = 1 then quoted x.f3.data.toList else if kind = 2 then namesText x.f4 else if kind = 3 then intText x.f6 else if kind = 4 then intText x.f7
  else if kind = 5 then dec x.f8.toNat else if kind = 6 then intText x.f9 else if kind = 7 then quoted x.f5.data.toList else paperText x.f1
/-- What a step has. -/
def argsOf (k : Nat) : List Int := if k = 1 then [8, 7] else if k = 2 ∨ k = 4 then [0] else if k = 3 ∨ k = 5 ∨ k = 6 then [0, 1] else if k = 8 then [3] else if k = 11 then [5, 6] else if k = 12 then [3, 5, 6] else if k = 14 then [0, 2, 3] else if k = 15 then [3, 4] else []
def wordOf (k : Nat) : List UInt8 := List.getD wordL k []
def printText (x : S45) : List UInt8 := if 1 ≤ x.f0 ∧ x.f0 ≤ 15 then Lib.join (wordOf x.f0.toNat :: (argsOf x.f0.toNat).map (argText x)) [32] ++ [59] else []
/-- Numbers are of their kinds, texts are not too long. -/
structure Okp (p : S42) : Prop where
  t : p.f0.size ≤ 1000000
  i0 : -9223372036854775808 ≤ p.f1
  i1 : p.f1 < 9223372036854775808
  f : ∀ f ∈ p.f2, f.f0.size ≤ 1000000 ∧ Okv f.f1
  n : p.f2.length ≤ 1000000
structure Oks (x : S45) : Prop where
  p : Okp x.f1
  t2 : x.f2.size ≤ 1000000
  t3 : x.f3.size ≤ 1000000
  t5 : x.f5.size ≤ 1000000
  n : ∀ s ∈ x.f4, s.size ≤ 1000000
  n4 : x.f4.length ≤ 1000000
  i6 : -9223372036854775808 ≤ x.f6
  j6 : x.f6 < 9223372036854775808
  i7 : -9223372036854775808 ≤ x.f7
  j7 : x.f7 < 9223372036854775808
  i8 : 0 ≤ x.f8
  j8 : x.f8 < 18446744073709551616
  i9 : -9223372036854775808 ≤ x.f9
  j9 : x.f9 < 9223372036854775808
theorem join_calls (A : Option Addr) (n c : Nat) (xs : List ByteArray) (hn : xs.length = n) (sep : ByteArray) (w : World) (hC : Kd.C Kd.string w A xs.length xs) (hc : xs.length ≤ c) (hN : xs.length ≤ 140737488355328)
    (hlen : (Lib.join (xs.map (·.data.toList)) sep.data.toList).length ≤ 140737488355328) :
    Calls Try.prog 40 #[.slice A n c, .string sep] w fun e w' => e = .returned (.string ⟨(Lib.join (xs.map (·.data.toList)) sep.data.toList).toArray⟩) ∧ Below w.heap.size w w' := by
  subst hn
  by_cases h0 : xs.length = 0
  · obtain rfl := List.eq_nil_of_length_eq_zero h0
    exact (Try.strings_Join_none A c sep w).mono fun e w' ⟨h1, h2⟩ => by subst h2; exact ⟨h1, Below.refl _ _⟩
  · obtain ⟨ad, rfl, hcell⟩ := hC.2.2 (by omega)
    have each : ∀ j x, xs[j]? = some x → w.cell? (ad.add j) = some (.string x) := by
      intro j x hx
      obtain ⟨cs, _, hk, hu⟩ := hcell j x hx
      have hk' : cs = [.string x] := hk
      have := hu 0 (.string x) (by rw [hk']; rfl)
      simpa [Kd.string, Kd.scalar] using this
    obtain ⟨b, o, sp⟩ := ad
    have hsp : sp = none := by
      have := each 0 xs[0] (by simp)
      simpa [Addr.add] using World.cell?_spot this
    subst hsp
    exact Try.strings_Join b o c xs sep w (fun j x hx => by have := each j x hx; rwa [Go.WideShapes.add_plain] at this) (World.block_lt_of_cell? w _ (each 0 xs[0] (by simp))) hN hc hlen

end Go.Proofs.Ytokkjnfdfbpphaa.A
namespace Go.Proofs.Ytokkjnfdfbpphaa.A
open Go.RowKit Go.Proofs.YtokkjnfdfbpphaaW.PrintWords Go.Proofs.YtokkjnfdfbpphaaW.PrintLast Go.Proofs.YtokkjnfdfbpphaaW.PrintMore
attribute [local go_sem] max2_int min2_int max_two min_two max_three min_three max_four min_four   -- for this text's walks alone
set_option linter.unusedVariables false
set_option linter.unusedSimpArgs false

/-- A step under way, in a block of its own. -/
structure Ob (w : World) (B g ga : Nat) (x : S45) (v3 v6 : Value) : Prop where
  box : w.heap[ga]? = some (.cells #[.int .i64 x.f0, .string x.f1.f0, .int .i64 x.f1.f1, v3, .string x.f2, .string x.f3, v6, .string x.f5, .int .i64 x.f6, .int .i64 x.f7, .int .u64 x.f8, .int .i64 x.f9] 45 (0, 0))
  r3 : Kd.R k87 87 w B (fun k => k ≠ ga ∧ k ≠ g) v3 x.f1.f2
  r6 : Kd.R Kd.string 9 w B (fun k => k ≠ ga ∧ k ≠ g) v6 x.f4
theorem Ob.keep {w w2 : World} {B g ga : Nat} {x : S45} {v3 v6 : Value} (h : Ob w B g ga x v3 v6) (hk : KeepBut w w2 g none) (hne : ga ≠ g) : Ob w2 B g ga x v3 v6 :=
  ⟨KeepBut.blk hk h.box hne (by simp), Kd.R_keep h.r3 hk (fun _ h => h.2), Kd.R_keep h.r6 hk (fun _ h => h.2)⟩
theorem Ob.below {w w2 : World} {B g ga : Nat} {x : S45} {v3 v6 : Value} (h : Ob w B g ga x v3 v6) (hb : Below w.heap.size w w2) : Ob w2 B g ga x v3 v6 :=
  ⟨(hb.block _ (blk_lt h.box)).trans h.box, Kd.R_below h.r3 hb, Kd.R_below h.r6 hb⟩
theorem Ob.put {w : World} {B g ga : Nat} {x y : S45} {v3 v6 : Value} (h : Ob w B g ga x v3 v6) (j : Nat) (u : Value)
    (hb : (#[.int .i64 x.f0, .string x.f1.f0, .int .i64 x.f1.f1, v3, .string x.f2, .string x.f3, v6, .string x.f5, .int .i64 x.f6, .int .i64 x.f7, .int .u64 x.f8, .int .i64 x.f9] : Array Value).setIfInBounds j u =
      #[.int .i64 y.f0, .string y.f1.f0, .int .i64 y.f1.f1, v3, .string y.f2, .string y.f3, v6, .string y.f5, .int .i64 y.f6, .int .i64 y.f7, .int .u64 y.f8, .int .i64 y.f9])
    (h1 : y.f1.f2 = x.f1.f2) (h2 : y.f4 = x.f4) : Ob (w.setCell ⟨ga, j, none⟩ u) B g ga y v3 v6 :=
  ⟨blk_put h.box j u hb, by rw [h1]; exact Kd.R_far h.r3 (fun _ h => h.1) u, by rw [h2]; exact Kd.R_far h.r6 (fun _ h => h.1) u⟩
theorem Ob.putN {w : World} {B g ga : Nat} {x : S45} {v3 v6 u : Value} {l : List ByteArray} (h : Ob w B g ga x v3 v6) (hu : Kd.R Kd.string 9 w B (fun k => k ≠ ga ∧ k ≠ g) u l) :
    Ob (w.setCell ⟨ga, 6, none⟩ u) B g ga { x with f4 := l } v3 u :=
  ⟨blk_put h.box 6 u rfl, Kd.R_far h.r3 (fun _ h => h.1) u, Kd.R_far hu (fun _ h => h.1) u⟩
theorem Ob.putP {w : World} {B g ga : Nat} {x : S45} {v3 v6 u : Value} {p : S42} (h : Ob w B g ga x v3 v6) (hu : Kd.R k87 87 w B (fun k => k ≠ ga ∧ k ≠ g) u p.f2) :
    Ob (((w.setCell ⟨ga, 1, none⟩ (.string p.f0)).setCell ⟨ga, 2, none⟩ (.int .i64 p.f1)).setCell ⟨ga, 3, none⟩ u) B g ga { x with f1 := p } u v6 :=
  ⟨blk_put (blk_put (blk_put h.box 1 _ rfl) 2 _ rfl) 3 u rfl, Kd.R_far (Kd.R_far (Kd.R_far hu (fun _ h => h.1) _) (fun _ h => h.1) _) (fun _ h => h.1) u,
    Kd.R_far (Kd.R_far (Kd.R_far h.r6 (fun _ h => h.1) _) (fun _ h => h.1) _) (fun _ h => h.1) u⟩
theorem Ob.cells {w : World} {B g ga : Nat} {x : S45} {v3 v6 : Value} (h : Ob w B g ga x v3 v6) :
    w.cell? ⟨ga, 1, none⟩ = some (.string x.f1.f0) ∧ w.cell? ⟨ga, 2, none⟩ = some (.int .i64 x.f1.f1) ∧ w.cell? ⟨ga, 3, none⟩ = some v3 ∧ w.cell? ⟨ga, 4, none⟩ = some (.string x.f2) ∧ w.cell? ⟨ga, 5, none⟩ = some (.string x.f3) ∧ w.cell? ⟨ga, 6, none⟩ = some v6 ∧
    w.cell? ⟨ga, 7, none⟩ = some (.string x.f5) ∧ w.cell? ⟨ga, 8, none⟩ = some (.int .i64 x.f6) ∧ w.cell? ⟨ga, 9, none⟩ = some (.int .i64 x.f7) ∧ w.cell? ⟨ga, 10, none⟩ = some (.int .u64 x.f8) ∧ w.cell? ⟨ga, 11, none⟩ = some (.int .i64 x.f9) ∧
    w.frozen? ⟨ga, 1, none⟩ = false ∧ w.frozen? ⟨ga, 2, none⟩ = false ∧ w.frozen? ⟨ga, 3, none⟩ = false ∧ w.frozen? ⟨ga, 4, none⟩ = false ∧ w.frozen? ⟨ga, 5, none⟩ = false ∧ w.frozen? ⟨ga, 6, none⟩ = false ∧ w.frozen? ⟨ga, 7, none⟩ = false ∧
    w.frozen? ⟨ga, 8, none⟩ = false ∧ w.frozen? ⟨ga, 9, none⟩ = false ∧ w.frozen? ⟨ga, 10, none⟩ = false ∧ w.frozen? ⟨ga, 11, none⟩ = false :=
  ⟨(blk_cell h.box 1).trans rfl, (blk_cell h.box 2).trans rfl, (blk_cell h.box 3).trans rfl, (blk_cell h.box 4).trans rfl, (blk_cell h.box 5).trans rfl, (blk_cell h.box 6).trans rfl, (blk_cell h.box 7).trans rfl, (blk_cell h.box 8).trans rfl,
    (blk_cell h.box 9).trans rfl, (blk_cell h.box 10).trans rfl, (blk_cell h.box 11).trans rfl, blk_frozen h.box 1, blk_frozen h.box 2, blk_frozen h.box 3, blk_frozen h.box 4, blk_frozen h.box 5, blk_frozen h.box 6, blk_frozen h.box 7, blk_frozen h.box 8, blk_frozen h.box 9, blk_frozen h.box 10, blk_frozen h.box 11⟩
theorem keep_row {w w1 : World} {g : Nat} (h : KeepBut w w1 g none) (ga : Nat) : KeepBut w w1 g (some ga) := ⟨h.1, fun i hi h1 _ => h.2 i hi h1 (by simp)⟩
theorem keep_rowSet {w w1 : World} {g ga : Nat} (h : KeepBut w w1 g (some ga)) (j : Nat) (u : Value) : KeepBut w (w1.setCell ⟨ga, j, none⟩ u) g (some ga) :=
  ⟨by simpa [World.setCell] using h.1, fun i hi h1 h2 => (Below.heap_setCell w1 ⟨ga, j, none⟩ u i (fun e => h2 (by rw [e]))).trans (h.2 i hi h1 h2)⟩

end Go.Proofs.Ytokkjnfdfbpphaa.A
namespace Go.Proofs.Ytokkjnfdfbpphaa.A
open Go.RowKit Go.Proofs.YtokkjnfdfbpphaaW.PrintWords Go.Proofs.YtokkjnfdfbpphaaW.PrintLast Go.Proofs.YtokkjnfdfbpphaaW.PrintMore
attribute [local go_sem] max2_int min2_int max_two min_two max_three min_three max_four min_four   -- for this text's walks alone
set_option linter.unusedVariables false
set_option linter.unusedSimpArgs false

/-! ### say_parser_names: function 72 -/
mutual
def say_parser_names.l0 : Nat → List ByteArray → Int → List (S28) → Int → Int → Int → Option (List ByteArray × Int × Int × Int)
  | 0, _, _, _, _, _, _ => none
  | k + 1, x3, x4, x1000, x1001, x1002, x1003 => if x1003 < 0 then ((say_parser_peek.f x1000 x1001 x1002 x1003 (⟨#[93]⟩ : ByteArray)).bind fun bt150 => (say_parser_names.j1 k x3 x4 (!bt150.1) x1000 bt150.2.1 bt150.2.2.1 bt150.2.2.2)) else (say_parser_names.j1 k x3 x4 false x1000 x1001 x1002 x1003)
def say_parser_names.j1 : Nat → List ByteArray → Int → Bool → List (S28) → Int → Int → Int → Option (List ByteArray × Int × Int × Int)
  | 0, _, _, _, _, _, _, _ => none
  | k + 1, x3, x4, x16, x1000, x1001, x1002, x1003 => if x16 = true then (if x4 > 0 then ((say_parser_mark.f x1000 x1001 x1002 x1003 (⟨#[44]⟩ : ByteArray)).bind fun bt157 => (say_parser_names.j2 k x3 x4 x1000 bt157.1 bt157.2.1 bt157.2.2)) else (say_parser_names.j2 k x3 x4 x1000 x1001 x1002 x1003)) else ((say_parser_mark.f x1000 x1001 x1002 x1003 (⟨#[93]⟩ : ByteArray)).bind fun bt154 => (some (x3, bt154.1, bt154.2.1, bt154.2.2)))
def say_parser_names.j2 : Nat → List ByteArray → Int → List (S28) → Int → Int → Int → Option (List ByteArray × Int × Int × Int)
  | 0, _, _, _, _, _, _ => none
  | k + 1, x3, x4, x1000, x1001, x1002, x1003 => if x4 ≥ 100 then ((say_parser_fail.f x1000 x1001 x1002 x1003).bind fun bt160 => ((say_parser_take.f x1000 bt160.1 bt160.2.1 bt160.2.2 2).bind fun bt163 => (if x3.length < 8796093022208 then (say_parser_names.l0 k (x3 ++ [bt163.1]) (wrap64 (x4 + 1)) x1000 bt163.2.1 bt163.2.2.1 bt163.2.2.2) else (none)))) else ((say_parser_take.f x1000 x1001 x1002 x1003 2).bind fun bt170 => (if x3.length < 8796093022208 then (say_parser_names.l0 k (x3 ++ [bt170.1]) (wrap64 (x4 + 1)) x1000 bt170.2.1 bt170.2.2.1 bt170.2.2.2) else (none)))
end
def say_parser_names.f (k : Nat) (s0_0 : List (S28)) (s0_1 : Int) (s0_2 : Int) (s0_3 : Int) : Option (List ByteArray × Int × Int × Int) := (say_parser_mark.f s0_0 s0_1 s0_2 s0_3 (⟨#[91]⟩ : ByteArray)).bind fun bt147 => (say_parser_names.l0 k ([] : List ByteArray) 0 s0_0 bt147.1 bt147.2.1 bt147.2.2)
theorem say_parser_names.mono_l : ∀ k, (∀ y0 y1 y2 y3 y4 y5, LeO (say_parser_names.l0 k y0 y1 y2 y3 y4 y5) (say_parser_names.l0 (k + 1) y0 y1 y2 y3 y4 y5)) ∧ (∀ y0 y1 y2 y3 y4 y5 y6, LeO (say_parser_names.j1 k y0 y1 y2 y3 y4 y5 y6) (say_parser_names.j1 (k + 1) y0 y1 y2 y3 y4 y5 y6)) ∧ (∀ y0 y1 y2 y3 y4 y5, LeO (say_parser_names.j2 k y0 y1 y2 y3 y4 y5) (say_parser_names.j2 (k + 1) y0 y1 y2 y3 y4 y5))
  | 0 => ⟨fun _ _ _ _ _ _ r h => by simp [say_parser_names.l0] at h, fun _ _ _ _ _ _ _ r h => by simp [say_parser_names.j1] at h, fun _ _ _ _ _ _ r h => by simp [say_parser_names.j2] at h⟩
  | k + 1 => by
    obtain ⟨ih0, ih1, ih2⟩ := say_parser_names.mono_l k
    refine ⟨?_, ?_, ?_⟩
    · intro y0 y1 y2 y3 y4 y5
      unfold say_parser_names.l0
      repeat' first
      | (with_reducible exact ih0 _ _ _ _ _ _)
      | (with_reducible exact ih1 _ _ _ _ _ _ _)
      | (with_reducible exact ih2 _ _ _ _ _ _)
      | (with_reducible exact LeO.refl _)
      | (with_reducible exact LeO.none _)
      | (with_reducible refine LeO.ite ?_ ?_)
      | (with_reducible refine LeO.bind ?_ (fun _ => ?_))
      | exact ih0 _ _ _ _ _ _
      | exact ih1 _ _ _ _ _ _ _
      | exact ih2 _ _ _ _ _ _
      | exact LeO.none _
      | refine LeO.ite ?_ ?_
      | refine LeO.bind ?_ (fun _ => ?_)
    · intro y0 y1 y2 y3 y4 y5 y6
      unfold say_parser_names.j1
      repeat' first
      | (with_reducible exact ih0 _ _ _ _ _ _)
      | (with_reducible exact ih1 _ _ _ _ _ _ _)
      | (with_reducible exact ih2 _ _ _ _ _ _)
      | (with_reducible exact LeO.refl _)
      | (with_reducible exact LeO.none _)
      | (with_reducible refine LeO.ite ?_ ?_)
      | (with_reducible refine LeO.bind ?_ (fun _ => ?_))
      | exact ih0 _ _ _ _ _ _
      | exact ih1 _ _ _ _ _ _ _
      | exact ih2 _ _ _ _ _ _
      | exact LeO.none _
      | refine LeO.ite ?_ ?_
      | refine LeO.bind ?_ (fun _ => ?_)
    · intro y0 y1 y2 y3 y4 y5
      unfold say_parser_names.j2
      repeat' first
      | (with_reducible exact ih0 _ _ _ _ _ _)
      | (with_reducible exact ih1 _ _ _ _ _ _ _)
      | (with_reducible exact ih2 _ _ _ _ _ _)
      | (with_reducible exact LeO.refl _)
      | (with_reducible exact LeO.none _)
      | (with_reducible refine LeO.ite ?_ ?_)
      | (with_reducible refine LeO.bind ?_ (fun _ => ?_))
      | exact ih0 _ _ _ _ _ _
      | exact ih1 _ _ _ _ _ _ _
      | exact ih2 _ _ _ _ _ _
      | exact LeO.none _
      | refine LeO.ite ?_ ?_
      | refine LeO.bind ?_ (fun _ => ?_)
theorem say_parser_names.mono : ∀ a0 a1 a2 a3 k, LeO (say_parser_names.f k a0 a1 a2 a3) (say_parser_names.f (k + 1) a0 a1 a2 a3) := by
  intro a0 a1 a2 a3 k
  obtain ⟨ih0, ih1, ih2⟩ := say_parser_names.mono_l k
  unfold say_parser_names.f
  repeat' first
      | (with_reducible exact ih0 _ _ _ _ _ _)
      | (with_reducible exact ih1 _ _ _ _ _ _ _)
      | (with_reducible exact ih2 _ _ _ _ _ _)
      | (with_reducible exact LeO.refl _)
      | (with_reducible exact LeO.none _)
      | (with_reducible refine LeO.ite ?_ ?_)
      | (with_reducible refine LeO.bind ?_ (fun _ => ?_))
      | exact ih0 _ _ _ _ _ _
      | exact ih1 _ _ _ _ _ _ _
      | exact ih2 _ _ _ _ _ _
      | exact LeO.none _
      | refine LeO.ite ?_ ?_
      | refine LeO.bind ?_ (fun _ => ?_)
set_option maxHeartbeats 8000000 in
set_option maxRecDepth 100000 in
theorem say_parser_names.calls (k : Nat) (g : Nat) (s0_0 : List (S28)) (s0_1 : Int) (s0_2 : Int) (s0_3 : Int) (r1 : List ByteArray) (r2 : Int) (r3 : Int) (r4 : Int) (w0 w : World) (hI : IsS74 w0 w g s0_0 s0_1 s0_2 s0_3) (hB : Below w0.heap.size w0 w) (h : say_parser_names.f k s0_0 s0_1 s0_2 s0_3 = some (r1, r2, r3, r4)) :
    Calls Try.prog 72 #[.pointer (some ⟨g, 0, none⟩)] w fun e w' => ∃ v0_ : Value, e = .returned (v0_) ∧ Kd.R Kd.string 9 w' w.heap.size (fun _ => True) v0_ r1 ∧ IsS74 w0 w' g s0_0 r2 r3 r4 ∧ Below w0.heap.size w0 w' ∧ KeepBut w w' g none := by
  have HI0 := Aside0.mk hI
  have HK := Aside0.mk (KeepBut.refl w g none)
  have HL := Aside0.mk hB.size
  clear hI
  have HW0 := Aside0.mk hB.size
  have HB := Aside0.mk hB
  clear hB
  have H : ((say_parser_mark.f s0_0 s0_1 s0_2 s0_3 (⟨#[91]⟩ : ByteArray)).bind fun bt147 => (say_parser_names.l0 k ([] : List ByteArray) 0 s0_0 bt147.1 bt147.2.1 bt147.2.2)) = some (r1, r2, r3, r4) := h
  clear h
  replace H := Option.bind_eq_some_iff.mp H
  obtain ⟨⟨t147, t148, t149⟩, A20, H⟩ := H
  replace H : (say_parser_names.l0 k ([] : List ByteArray) 0 s0_0 t147 t148 t149) = some (r1, r2, r3, r4) := H
  have A2 := Aside0.mk A20
  clear A20
  have H' := Aside0.mk H
  clear H
  go_enter Try.func72, Try.ntmps72
  go_wp2_with (first | ((with_reducible refine gate_callee (f := 63) rfl ?_); refine goesL_ (some 6) rfl rfl Try.func63 (by kernel_rfl) rfl #[.pointer (some ⟨g, 0, none⟩), .string (⟨#[91]⟩ : ByteArray)] rfl (by (try simp only [List.map_toArray, List.map_cons, List.map_nil]); first | done | rfl | (simp only [List.length_drop, List.length_take]; rfl)) ?_; (with_reducible refine (say_parser_mark.calls g s0_0 s0_1 s0_2 s0_3 (⟨#[91]⟩ : ByteArray) t147 t148 t149 w0 _ ?side1 ?side2 A2.out).mono ?_); (case side1 => repeat (first | (with_reducible first | exact HI0.out | apply IsS74.alloc | apply IsS74.drewN | apply IsS74.drew | apply IsS74.set_1 | apply IsS74.set_2 | apply IsS74.set_3) | exact HI0.out)); (case side2 => repeat (first | (with_reducible first | exact HB.out | apply below_alloc | apply pw_below_drewN | apply below_drew1 | refine below_set ?_ (IsS74.ge HI0.out)) | exact HB.out)); rintro e w3 ⟨rfl, hi, hb, hk⟩; refine ⟨_, rfl, ?_⟩; have n0_ := Aside0.mk (KeepBut.trans (by repeat (first | (with_reducible first | exact HK.out | apply KeepBut.set_ | apply keep_drewN | apply keep_drew | apply keep_alloc) | exact HK.out)) hk (.inl rfl)); have n1_ := Aside0.mk (hb); have n2_ := Aside0.mk (hi); clear HK; clear HB; clear HI0; have HK := n0_; have HB := n1_; have HI0 := n2_; clear n0_ n1_ n2_; (try clear hb); (try clear hb2); (try clear hk); (try clear hi)))
  go_loopg [3, 4] k (fun kq v3 v4 w' => ∃ (x3_1 : List ByteArray) (x4_1 : Int) (x1001_1 : Int) (x1002_1 : Int) (x1003_1 : Int), v4 = .int .i64 x4_1 ∧ Aside0 (say_parser_names.l0 kq x3_1 x4_1 s0_0 x1001_1 x1002_1 x1003_1 = some (r1, r2, r3, r4)) ∧ Aside0 (kq ≤ k) ∧ Aside0 (Kd.R Kd.string 9 w' w.heap.size (fun _ => True) v3 x3_1) ∧ Aside0 (IsS74 w0 w' g s0_0 x1001_1 x1002_1 x1003_1) ∧ Aside0 (KeepBut w w' g none) ∧ Aside0 (Below w0.heap.size w0 w'))
  case atStart => exact ⟨(([] : List ByteArray)), (0), (t147), (t148), (t149), (by first | rfl | (simp; done) | (simp [*]; done)), H', ⟨Nat.le_refl _⟩, ⟨by first | exact Kd.R_nil _ _ _ _ _ | exact Kd.N_nil _ _ _ _ _ | exact Kd.V_nil _ _ _ _ _ | exact Kd.Q_nil _ _ _ _ _ | exact Kd.S_nil _ _ _ _ _⟩, ⟨by repeat (first | (with_reducible first | exact HI0.out | apply IsS74.alloc | apply IsS74.drewN | apply IsS74.drew | apply IsS74.set_1 | apply IsS74.set_2 | apply IsS74.set_3) | exact HI0.out)⟩, ⟨by repeat (first | (with_reducible first | exact HK.out | apply KeepBut.set_ | apply keep_drewN | apply keep_drew | apply keep_alloc) | exact HK.out)⟩, ⟨by repeat (first | (with_reducible first | exact HB.out | apply below_alloc | apply pw_below_drewN | apply below_drew1 | refine below_set ?_ (IsS74.ge HI0.out)) | exact HB.out)⟩⟩
  case round =>
    clear H'
    try clear p2
    obtain ⟨x3_1, x4_1, x1001_1, x1002_1, x1003_1, rfl, HA, HK1, HO_3, HI0, HK, HB⟩ := hrel
    cases gk with
    | zero => exact absurd HA.out (by simp [say_parser_names.l0])
    | succ k1 =>
      have H := HA.out
      clear HA
      simp only [say_parser_names.l0] at H
      have HC4 := Aside0.mk H
      clear H
      go_upto_region 4 with (fail)
      go_cut [16] (fun v16 wc => ∃ (kq : Nat) (x16_3 : Bool) (x1001_3 : Int) (x1002_3 : Int) (x1003_3 : Int), v16 = .bool x16_3 ∧ Aside0 (say_parser_names.j1 kq x3_1 x4_1 x16_3 s0_0 x1001_3 x1002_3 x1003_3 = some (r1, r2, r3, r4)) ∧ Aside0 (kq ≤ k1) ∧ Aside0 (Kd.R Kd.string 9 wc w.heap.size (fun _ => True) u3 x3_1) ∧ Aside0 (IsS74 w0 wc g s0_0 x1001_3 x1002_3 x1003_3) ∧ Aside0 (KeepBut w wc g none) ∧ Aside0 (Below w0.heap.size w0 wc))
      case first =>
        have H := HC4.out
        clear HC4
        by_cases c5 : x1003_1 < 0
        · rw [if_pos c5] at H
          have c5b0 : decide (x1003_1 < 0) = true := decide_eq_true c5
          clear c5
          (first | rw [c5b0] | (simp only [i64_w, i32_w]; rw [c5b0]) | skip)
          replace H := Option.bind_eq_some_iff.mp H
          obtain ⟨⟨t150, t151, t152, t153⟩, A60, H⟩ := H
          replace H : (say_parser_names.j1 k1 x3_1 x4_1 (!t150) s0_0 t151 t152 t153) = some (r1, r2, r3, r4) := H
          have A6 := Aside0.mk A60
          clear A60
          have H' := Aside0.mk H
          clear H
          obtain ⟨ASz7_0, cSz7_0, HGz7, hgz7, HSz7_0⟩ := HI0.out
          have hcz7_0 := cellS74_0 HGz7
          have hcz7_1 := cellS74_1 HGz7
          have hcz7_2 := cellS74_2 HGz7
          have hcz7_3 := cellS74_3 HGz7
          have hfz7_1 := blk_frozen HGz7 1
          have hfz7_2 := blk_frozen HGz7 2
          have hfz7_3 := blk_frozen HGz7 3
          clear HGz7 hgz7
          go_wp2_with (first | (go_at_call 75; (with_reducible refine (say_parser_peek.calls g s0_0 x1001_1 x1002_1 x1003_1 (⟨#[93]⟩ : ByteArray) t150 t151 t152 t153 w0 _ ?side1 ?side2 A6.out).mono ?_); (case side1 => repeat (first | (with_reducible first | exact HI0.out | apply IsS74.alloc | apply IsS74.drewN | apply IsS74.drew | apply IsS74.set_1 | apply IsS74.set_2 | apply IsS74.set_3) | exact HI0.out)); (case side2 => repeat (first | (with_reducible first | exact HB.out | apply below_alloc | apply pw_below_drewN | apply below_drew1 | refine below_set ?_ (IsS74.ge HI0.out)) | exact HB.out)); rintro e w8 ⟨rfl, hi, hb, hk⟩; have n0_ := Aside0.mk (Kd.R_mono (Kd.R_keep (IsS74.apart (show IsS74 w0 _ g s0_0 x1001_1 x1002_1 x1003_1 from by repeat (first | (with_reducible first | exact HI0.out | apply IsS74.alloc | apply IsS74.drewN | apply IsS74.drew | apply IsS74.set_1 | apply IsS74.set_2 | apply IsS74.set_3) | exact HI0.out)) (by (with_reducible repeat (first | apply Kd.R_alloc | apply Kd.R_drewN | apply Kd.R_drew)); exact HO_3.out) (by decide)) hk (fun _ h => h.2)) (fun _ h => h.1)); have n1_ := Aside0.mk (KeepBut.trans (by repeat (first | (with_reducible first | exact HK.out | apply KeepBut.set_ | apply keep_drewN | apply keep_drew | apply keep_alloc) | exact HK.out)) hk (.inl rfl)); have n2_ := Aside0.mk (hb); have n3_ := Aside0.mk (hi); clear HO_3; clear HK; clear HB; clear HI0; have HO_3 := n0_; have HK := n1_; have HB := n2_; have HI0 := n3_; clear n0_ n1_ n2_ n3_; (try clear hb); (try clear hb2); (try clear hk); (try clear hi)))
          go_meet
          case rel => exact ⟨_, (!t150), (t151), (t152), (t153), (by first | rfl | (simp; done) | (simp [*]; done)), H', ⟨by have := HK1.out; first | omega | exact Nat.le_refl _⟩, ⟨by (with_reducible repeat (first | apply Kd.R_alloc | apply Kd.R_drewN | apply Kd.R_drew)); exact HO_3.out⟩, ⟨by repeat (first | (with_reducible first | exact HI0.out | apply IsS74.alloc | apply IsS74.drewN | apply IsS74.drew | apply IsS74.set_1 | apply IsS74.set_2 | apply IsS74.set_3) | exact HI0.out)⟩, ⟨by repeat (first | (with_reducible first | exact HK.out | apply KeepBut.set_ | apply keep_drewN | apply keep_drew | apply keep_alloc) | exact HK.out)⟩, ⟨by repeat (first | (with_reducible first | exact HB.out | apply below_alloc | apply pw_below_drewN | apply below_drew1 | refine below_set ?_ (IsS74.ge HI0.out)) | exact HB.out)⟩⟩
        · rw [if_neg c5] at H
          have c5b0 : decide (x1003_1 < 0) = false := decide_eq_false c5
          clear c5
          (first | rw [c5b0] | (simp only [i64_w, i32_w]; rw [c5b0]) | skip)
          have H' := Aside0.mk H
          clear H
          obtain ⟨ASz9_0, cSz9_0, HGz9, hgz9, HSz9_0⟩ := HI0.out
          have hcz9_0 := cellS74_0 HGz9
          have hcz9_1 := cellS74_1 HGz9
          have hcz9_2 := cellS74_2 HGz9
          have hcz9_3 := cellS74_3 HGz9
          have hfz9_1 := blk_frozen HGz9 1
          have hfz9_2 := blk_frozen HGz9 2
          have hfz9_3 := blk_frozen HGz9 3
          clear HGz9 hgz9
          go_wp2
          go_meet
          case rel => exact ⟨_, (false), (x1001_1), (x1002_1), (x1003_1), (by first | rfl | (simp; done) | (simp [*]; done)), H', ⟨by have := HK1.out; first | omega | exact Nat.le_refl _⟩, ⟨by (with_reducible repeat (first | apply Kd.R_alloc | apply Kd.R_drewN | apply Kd.R_drew)); exact HO_3.out⟩, ⟨by repeat (first | (with_reducible first | exact HI0.out | apply IsS74.alloc | apply IsS74.drewN | apply IsS74.drew | apply IsS74.set_1 | apply IsS74.set_2 | apply IsS74.set_3) | exact HI0.out)⟩, ⟨by repeat (first | (with_reducible first | exact HK.out | apply KeepBut.set_ | apply keep_drewN | apply keep_drew | apply keep_alloc) | exact HK.out)⟩, ⟨by repeat (first | (with_reducible first | exact HB.out | apply below_alloc | apply pw_below_drewN | apply below_drew1 | refine below_set ?_ (IsS74.ge HI0.out)) | exact HB.out)⟩⟩
      case rest =>
        clear HC4
        try clear p2
        try clear c5
        try clear c5b0
        try clear c6
        try clear c7
        try clear hcz7_0
        try clear hcz7_1
        try clear hcz7_2
        try clear hcz7_3
        try clear hcz9_0
        try clear hcz9_1
        try clear hcz9_2
        try clear hcz9_3
        try clear hfz7_1
        try clear hfz7_2
        try clear hfz7_3
        try clear hfz9_1
        try clear hfz9_2
        try clear hfz9_3
        try clear p2
        obtain ⟨kq, x16_3, x1001_3, x1002_3, x1003_3, rfl, HA, HJ3, HO_3, HI0, HK, HB⟩ := hcut
        cases kq with
        | zero => exact absurd HA.out (by simp [say_parser_names.j1])
        | succ kj3 =>
          have H := HA.out
          clear HA
          simp only [say_parser_names.j1] at H
          by_cases c10 : x16_3 = true
          · subst c10
            have H1 : (if x4_1 > 0 then ((say_parser_mark.f s0_0 x1001_3 x1002_3 x1003_3 (⟨#[44]⟩ : ByteArray)).bind fun bt157 => (say_parser_names.j2 kj3 x3_1 x4_1 s0_0 bt157.1 bt157.2.1 bt157.2.2)) else (say_parser_names.j2 kj3 x3_1 x4_1 s0_0 x1001_3 x1002_3 x1003_3)) = some (r1, r2, r3, r4) := by rw [if_pos rfl] at H; exact H
            clear H
            have H := H1
            clear H1
            have HC11 := Aside0.mk H
            clear H
            go_upto_if 20 with (fail)
            go_cut [] (fun wc => ∃ (kq : Nat) (x1001_10 : Int) (x1002_10 : Int) (x1003_10 : Int), Aside0 (say_parser_names.j2 kq x3_1 x4_1 s0_0 x1001_10 x1002_10 x1003_10 = some (r1, r2, r3, r4)) ∧ Aside0 (kq ≤ kj3) ∧ Aside0 (Kd.R Kd.string 9 wc w.heap.size (fun _ => True) u3 x3_1) ∧ Aside0 (IsS74 w0 wc g s0_0 x1001_10 x1002_10 x1003_10) ∧ Aside0 (KeepBut w wc g none) ∧ Aside0 (Below w0.heap.size w0 wc))
            case first =>
              have H := HC11.out
              clear HC11
              by_cases c12 : x4_1 > 0
              · rw [if_pos c12] at H
                have c12b0 : decide (0 < x4_1) = true := decide_eq_true c12
                clear c12
                (first | rw [c12b0] | (simp only [i64_w, i32_w]; rw [c12b0]) | skip)
                replace H := Option.bind_eq_some_iff.mp H
                obtain ⟨⟨t157, t158, t159⟩, A130, H⟩ := H
                replace H : (say_parser_names.j2 kj3 x3_1 x4_1 s0_0 t157 t158 t159) = some (r1, r2, r3, r4) := H
                have A13 := Aside0.mk A130
                clear A130
                have H' := Aside0.mk H
                clear H
                go_wp2_with (first | ((with_reducible refine gate_callee (f := 63) rfl ?_); refine goesL_ (some 22) rfl rfl Try.func63 (by kernel_rfl) rfl #[.pointer (some ⟨g, 0, none⟩), .string (⟨#[44]⟩ : ByteArray)] rfl (by (try simp only [List.map_toArray, List.map_cons, List.map_nil]); first | done | rfl | (simp only [List.length_drop, List.length_take]; rfl)) ?_; (with_reducible refine (say_parser_mark.calls g s0_0 x1001_3 x1002_3 x1003_3 (⟨#[44]⟩ : ByteArray) t157 t158 t159 w0 _ ?side1 ?side2 A13.out).mono ?_); (case side1 => repeat (first | (with_reducible first | exact HI0.out | apply IsS74.alloc | apply IsS74.drewN | apply IsS74.drew | apply IsS74.set_1 | apply IsS74.set_2 | apply IsS74.set_3) | exact HI0.out)); (case side2 => repeat (first | (with_reducible first | exact HB.out | apply below_alloc | apply pw_below_drewN | apply below_drew1 | refine below_set ?_ (IsS74.ge HI0.out)) | exact HB.out)); rintro e w14 ⟨rfl, hi, hb, hk⟩; refine ⟨_, rfl, ?_⟩; have n0_ := Aside0.mk (Kd.R_mono (Kd.R_keep (IsS74.apart (show IsS74 w0 _ g s0_0 x1001_3 x1002_3 x1003_3 from by repeat (first | (with_reducible first | exact HI0.out | apply IsS74.alloc | apply IsS74.drewN | apply IsS74.drew | apply IsS74.set_1 | apply IsS74.set_2 | apply IsS74.set_3) | exact HI0.out)) (by (with_reducible repeat (first | apply Kd.R_alloc | apply Kd.R_drewN | apply Kd.R_drew)); exact HO_3.out) (by decide)) hk (fun _ h => h.2)) (fun _ h => h.1)); have n1_ := Aside0.mk (KeepBut.trans (by repeat (first | (with_reducible first | exact HK.out | apply KeepBut.set_ | apply keep_drewN | apply keep_drew | apply keep_alloc) | exact HK.out)) hk (.inl rfl)); have n2_ := Aside0.mk (hb); have n3_ := Aside0.mk (hi); clear HO_3; clear HK; clear HB; clear HI0; have HO_3 := n0_; have HK := n1_; have HB := n2_; have HI0 := n3_; clear n0_ n1_ n2_ n3_; (try clear hb); (try clear hb2); (try clear hk); (try clear hi)))
                go_meet
                case rel => exact ⟨_, (t157), (t158), (t159), H', ⟨by have := HK1.out; have := HJ3.out; first | omega | exact Nat.le_refl _⟩, ⟨by (with_reducible repeat (first | apply Kd.R_alloc | apply Kd.R_drewN | apply Kd.R_drew)); exact HO_3.out⟩, ⟨by repeat (first | (with_reducible first | exact HI0.out | apply IsS74.alloc | apply IsS74.drewN | apply IsS74.drew | apply IsS74.set_1 | apply IsS74.set_2 | apply IsS74.set_3) | exact HI0.out)⟩, ⟨by repeat (first | (with_reducible first | exact HK.out | apply KeepBut.set_ | apply keep_drewN | apply keep_drew | apply keep_alloc) | exact HK.out)⟩, ⟨by repeat (first | (with_reducible first | exact HB.out | apply below_alloc | apply pw_below_drewN | apply below_drew1 | refine below_set ?_ (IsS74.ge HI0.out)) | exact HB.out)⟩⟩
              · rw [if_neg c12] at H
                have c12b0 : decide (0 < x4_1) = false := decide_eq_false c12
                clear c12
                (first | rw [c12b0] | (simp only [i64_w, i32_w]; rw [c12b0]) | skip)
                have H' := Aside0.mk H
                clear H
                go_wp2
                go_meet
                case rel => exact ⟨_, (x1001_3), (x1002_3), (x1003_3), H', ⟨by have := HK1.out; have := HJ3.out; first | omega | exact Nat.le_refl _⟩, ⟨by (with_reducible repeat (first | apply Kd.R_alloc | apply Kd.R_drewN | apply Kd.R_drew)); exact HO_3.out⟩, ⟨by repeat (first | (with_reducible first | exact HI0.out | apply IsS74.alloc | apply IsS74.drewN | apply IsS74.drew | apply IsS74.set_1 | apply IsS74.set_2 | apply IsS74.set_3) | exact HI0.out)⟩, ⟨by repeat (first | (with_reducible first | exact HK.out | apply KeepBut.set_ | apply keep_drewN | apply keep_drew | apply keep_alloc) | exact HK.out)⟩, ⟨by repeat (first | (with_reducible first | exact HB.out | apply below_alloc | apply pw_below_drewN | apply below_drew1 | refine below_set ?_ (IsS74.ge HI0.out)) | exact HB.out)⟩⟩
            case rest =>
              clear HC11
              try clear c1
              try clear p2
              try clear c5
              try clear c5b0
              try clear c6
              try clear c7
              try clear c10
              try clear c12
              try clear c12b0
              try clear hcz7_0
              try clear hcz7_1
              try clear hcz7_2
              try clear hcz7_3
              try clear hcz9_0
              try clear hcz9_1
              try clear hcz9_2
              try clear hcz9_3
              try clear hfz7_1
              try clear hfz7_2
              try clear hfz7_3
              try clear hfz9_1
              try clear hfz9_2
              try clear hfz9_3
              try clear p2
              obtain ⟨kq, x1001_10, x1002_10, x1003_10, HA, HJ10, HO_3, HI0, HK, HB⟩ := hcut
              cases kq with
              | zero => exact absurd HA.out (by simp [say_parser_names.j2])
              | succ kj10 =>
                have H := HA.out
                clear HA
                simp only [say_parser_names.j2] at H
                by_cases c15 : x4_1 ≥ 100
                · rw [if_pos c15] at H
                  have c15b0 : decide (100 ≤ x4_1) = true := decide_eq_true c15
                  clear c15
                  replace H := Option.bind_eq_some_iff.mp H
                  obtain ⟨⟨t160, t161, t162⟩, A160, H⟩ := H
                  replace H : ((say_parser_take.f s0_0 t160 t161 t162 2).bind fun bt163 => (if x3_1.length < 8796093022208 then (say_parser_names.l0 kj10 (x3_1 ++ [bt163.1]) (wrap64 (x4_1 + 1)) s0_0 bt163.2.1 bt163.2.2.1 bt163.2.2.2) else (none))) = some (r1, r2, r3, r4) := H
                  have A16 := Aside0.mk A160
                  clear A160
                  replace H := Option.bind_eq_some_iff.mp H
                  obtain ⟨⟨t163, t164, t165, t166⟩, A170, H⟩ := H
                  replace H : (if x3_1.length < 8796093022208 then (say_parser_names.l0 kj10 (x3_1 ++ [t163]) (wrap64 (x4_1 + 1)) s0_0 t164 t165 t166) else (none)) = some (r1, r2, r3, r4) := H
                  have A17 := Aside0.mk A170
                  clear A170
                  by_cases c18 : x3_1.length < 8796093022208
                  · rw [if_pos c18] at H
                    have LMc18 := Aside0.mk c18
                    clear c18
                    obtain ⟨y167, hy167⟩ : ∃ y_ : List ByteArray, y_ = (x3_1 ++ [t163]) := ⟨_, rfl⟩
                    replace H : (say_parser_names.l0 kj10 y167 (wrap64 (x4_1 + 1)) s0_0 t164 t165 t166) = some (r1, r2, r3, r4) := by first | (rw [hy167]; with_reducible exact H) | (have H2_ := (Option.bind_some _ _).symm.trans H; rw [hy167]; with_reducible exact H2_) | (have H2_ := (Option.bind_some _ _).symm.trans H; with_reducible exact H2_) | with_reducible exact H | (rw [hy167]; exact H) | exact H
                    have Ny167 := Aside0.mk hy167
                    clear hy167
                    have H' := Aside0.mk H
                    clear H
                    go_wp2_with (first | ((with_reducible refine gate_callee (f := 55) rfl ?_); refine goesL_ (some 26) rfl rfl Try.func55 (by kernel_rfl) rfl #[.pointer (some ⟨g, 0, none⟩)] rfl (by (try simp only [List.map_toArray, List.map_cons, List.map_nil]); first | done | rfl | (simp only [List.length_drop, List.length_take]; rfl)) ?_; (with_reducible refine (say_parser_fail.calls g s0_0 x1001_10 x1002_10 x1003_10 t160 t161 t162 w0 _ ?side1 ?side2 A16.out).mono ?_); (case side1 => repeat (first | (with_reducible first | exact HI0.out | apply IsS74.alloc | apply IsS74.drewN | apply IsS74.drew | apply IsS74.set_1 | apply IsS74.set_2 | apply IsS74.set_3) | exact HI0.out)); (case side2 => repeat (first | (with_reducible first | exact HB.out | apply below_alloc | apply pw_below_drewN | apply below_drew1 | refine below_set ?_ (IsS74.ge HI0.out)) | exact HB.out)); rintro e w19 ⟨rfl, hi, hb, hk⟩; refine ⟨_, rfl, ?_⟩; have n0_ := Aside0.mk (Kd.R_mono (Kd.R_keep (IsS74.apart (show IsS74 w0 _ g s0_0 x1001_10 x1002_10 x1003_10 from by repeat (first | (with_reducible first | exact HI0.out | apply IsS74.alloc | apply IsS74.drewN | apply IsS74.drew | apply IsS74.set_1 | apply IsS74.set_2 | apply IsS74.set_3) | exact HI0.out)) (by (with_reducible repeat (first | apply Kd.R_alloc | apply Kd.R_drewN | apply Kd.R_drew)); exact HO_3.out) (by decide)) hk (fun _ h => h.2)) (fun _ h => h.1)); have n1_ := Aside0.mk (KeepBut.trans (by repeat (first | (with_reducible first | exact HK.out | apply KeepBut.set_ | apply keep_drewN | apply keep_drew | apply keep_alloc) | exact HK.out)) hk (.inl rfl)); have n2_ := Aside0.mk (hb); have n3_ := Aside0.mk (hi); clear HO_3; clear HK; clear HB; clear HI0; have HO_3 := n0_; have HK := n1_; have HB := n2_; have HI0 := n3_; clear n0_ n1_ n2_ n3_; (try clear hb); (try clear hb2); (try clear hk); (try clear hi)) | ((with_reducible refine gate_callee (f := 61) rfl ?_); refine goesL_ (some 29) rfl rfl Try.func61 (by kernel_rfl) rfl #[.pointer (some ⟨g, 0, none⟩), .int .i64 2] rfl (by (try simp only [List.map_toArray, List.map_cons, List.map_nil]); first | done | rfl | (simp only [List.length_drop, List.length_take]; rfl)) ?_; (with_reducible refine (say_parser_take.calls g s0_0 t160 t161 t162 2 t163 t164 t165 t166 w0 _ ?side1 ?side2 A17.out).mono ?_); (case side1 => repeat (first | (with_reducible first | exact HI0.out | apply IsS74.alloc | apply IsS74.drewN | apply IsS74.drew | apply IsS74.set_1 | apply IsS74.set_2 | apply IsS74.set_3) | exact HI0.out)); (case side2 => repeat (first | (with_reducible first | exact HB.out | apply below_alloc | apply pw_below_drewN | apply below_drew1 | refine below_set ?_ (IsS74.ge HI0.out)) | exact HB.out)); rintro e w20 ⟨rfl, hi, hb, hk⟩; refine ⟨_, rfl, ?_⟩; have n0_ := Aside0.mk (Kd.R_mono (Kd.R_keep (IsS74.apart (show IsS74 w0 _ g s0_0 t160 t161 t162 from by repeat (first | (with_reducible first | exact HI0.out | apply IsS74.alloc | apply IsS74.drewN | apply IsS74.drew | apply IsS74.set_1 | apply IsS74.set_2 | apply IsS74.set_3) | exact HI0.out)) (by (with_reducible repeat (first | apply Kd.R_alloc | apply Kd.R_drewN | apply Kd.R_drew)); exact HO_3.out) (by decide)) hk (fun _ h => h.2)) (fun _ h => h.1)); have n1_ := Aside0.mk (KeepBut.trans (by repeat (first | (with_reducible first | exact HK.out | apply KeepBut.set_ | apply keep_drewN | apply keep_drew | apply keep_alloc) | exact HK.out)) hk (.inl rfl)); have n2_ := Aside0.mk (hb); have n3_ := Aside0.mk (hi); clear HO_3; clear HK; clear HB; clear HI0; have HO_3 := n0_; have HK := n1_; have HB := n2_; have HI0 := n3_; clear n0_ n1_ n2_ n3_; (try clear hb); (try clear hb2); (try clear hk); (try clear hi)) | ((with_reducible refine gate_builtin (b := .append) (xs := #[.tmp 27, .tmp 30]) rfl ?_); at_builtin; refine Kd.R_append Kd.string w.heap.size rfl (.tmp 27) (.tmp 30) 43 9 (.string ⟨#[]⟩) 16 rfl Try.underlying43 info9 rfl (by decide) (by omega) u3 x3_1 t163 [.string t163] (fun _ => True) (fun _ => False) rfl rfl ?aP (fun _ hk => hk.elim) ?aF ?aO (Below.refl _ _) ?aS ?aL ?_; (case aP => exact rfl); (case aF => exact (fun _ _ => trivial)); (case aO => exact (by (with_reducible repeat (first | apply Kd.R_alloc | apply Kd.R_drewN | apply Kd.R_drew)); exact HO_3.out)); (case aS => exact (keep_size (w := w) (g := g) (row := none) (by repeat (first | (with_reducible first | exact HK.out | apply KeepBut.set_ | apply keep_drewN | apply keep_drew | apply keep_alloc) | exact HK.out)))); (case aL => have := LMc18.out; omega); intro v168 w21 ho hb hg hat; rw [← Ny167.out] at ho; have n0_ := Aside0.mk (IsS74.grown (by repeat (first | (with_reducible first | exact HI0.out | apply IsS74.alloc | apply IsS74.drewN | apply IsS74.drew | apply IsS74.set_1 | apply IsS74.set_2 | apply IsS74.set_3) | exact HI0.out)) hg (IsS74.own_ne HI0.out HO_3.out (by decide))); have n1_ := Aside0.mk (below_weaken (by repeat (first | (with_reducible first | exact HB.out | apply below_alloc | apply pw_below_drewN | apply below_drew1 | refine below_set ?_ (IsS74.ge HI0.out)) | exact HB.out)) HL.out hb); have n2_ := Aside0.mk (KeepBut.trans (by repeat (first | (with_reducible first | exact HK.out | apply KeepBut.set_ | apply keep_drewN | apply keep_drew | apply keep_alloc) | exact HK.out)) (KeepBut.of_grown hg g) (Kd.R_base2 HO_3.out)); have n3_ := Aside0.mk (ho); clear HI0; clear HB; clear HK; clear HO_3; have HI0 := n0_; have HB := n1_; have HK := n2_; have HO169 := n3_; clear n0_ n1_ n2_ n3_; clear ho hb hg hat))
                    go_roundg kj10
                    case measure => have := HK1.out; have := HJ3.out; have := HJ10.out; omega
                    case rel => exact ⟨(y167), (wrap64 (x4_1 + 1)), (t164), (t165), (t166), (by first | rfl | (simp; done) | (simp [*]; done)), H', ⟨by have := HK1.out; have := HJ3.out; have := HJ10.out; omega⟩, ⟨by (with_reducible repeat (first | apply Kd.R_alloc | apply Kd.R_drewN | apply Kd.R_drew)); exact HO169.out⟩, ⟨by repeat (first | (with_reducible first | exact HI0.out | apply IsS74.alloc | apply IsS74.drewN | apply IsS74.drew | apply IsS74.set_1 | apply IsS74.set_2 | apply IsS74.set_3) | exact HI0.out)⟩, ⟨by repeat (first | (with_reducible first | exact HK.out | apply KeepBut.set_ | apply keep_drewN | apply keep_drew | apply keep_alloc) | exact HK.out)⟩, ⟨by repeat (first | (with_reducible first | exact HB.out | apply below_alloc | apply pw_below_drewN | apply below_drew1 | refine below_set ?_ (IsS74.ge HI0.out)) | exact HB.out)⟩⟩
                  · rw [if_neg c18] at H
                    exact absurd H (by simp)
                · rw [if_neg c15] at H
                  have c15b0 : decide (100 ≤ x4_1) = false := decide_eq_false c15
                  clear c15
                  replace H := Option.bind_eq_some_iff.mp H
                  obtain ⟨⟨t170, t171, t172, t173⟩, A220, H⟩ := H
                  replace H : (if x3_1.length < 8796093022208 then (say_parser_names.l0 kj10 (x3_1 ++ [t170]) (wrap64 (x4_1 + 1)) s0_0 t171 t172 t173) else (none)) = some (r1, r2, r3, r4) := H
                  have A22 := Aside0.mk A220
                  clear A220
                  by_cases c23 : x3_1.length < 8796093022208
                  · rw [if_pos c23] at H
                    have LMc23 := Aside0.mk c23
                    clear c23
                    obtain ⟨y174, hy174⟩ : ∃ y_ : List ByteArray, y_ = (x3_1 ++ [t170]) := ⟨_, rfl⟩
                    replace H : (say_parser_names.l0 kj10 y174 (wrap64 (x4_1 + 1)) s0_0 t171 t172 t173) = some (r1, r2, r3, r4) := by first | (rw [hy174]; with_reducible exact H) | (have H2_ := (Option.bind_some _ _).symm.trans H; rw [hy174]; with_reducible exact H2_) | (have H2_ := (Option.bind_some _ _).symm.trans H; with_reducible exact H2_) | with_reducible exact H | (rw [hy174]; exact H) | exact H
                    have Ny174 := Aside0.mk hy174
                    clear hy174
                    have H' := Aside0.mk H
                    clear H
                    go_wp2_with (first | ((with_reducible refine gate_callee (f := 61) rfl ?_); refine goesL_ (some 29) rfl rfl Try.func61 (by kernel_rfl) rfl #[.pointer (some ⟨g, 0, none⟩), .int .i64 2] rfl (by (try simp only [List.map_toArray, List.map_cons, List.map_nil]); first | done | rfl | (simp only [List.length_drop, List.length_take]; rfl)) ?_; (with_reducible refine (say_parser_take.calls g s0_0 x1001_10 x1002_10 x1003_10 2 t170 t171 t172 t173 w0 _ ?side1 ?side2 A22.out).mono ?_); (case side1 => repeat (first | (with_reducible first | exact HI0.out | apply IsS74.alloc | apply IsS74.drewN | apply IsS74.drew | apply IsS74.set_1 | apply IsS74.set_2 | apply IsS74.set_3) | exact HI0.out)); (case side2 => repeat (first | (with_reducible first | exact HB.out | apply below_alloc | apply pw_below_drewN | apply below_drew1 | refine below_set ?_ (IsS74.ge HI0.out)) | exact HB.out)); rintro e w24 ⟨rfl, hi, hb, hk⟩; refine ⟨_, rfl, ?_⟩; have n0_ := Aside0.mk (Kd.R_mono (Kd.R_keep (IsS74.apart (show IsS74 w0 _ g s0_0 x1001_10 x1002_10 x1003_10 from by repeat (first | (with_reducible first | exact HI0.out | apply IsS74.alloc | apply IsS74.drewN | apply IsS74.drew | apply IsS74.set_1 | apply IsS74.set_2 | apply IsS74.set_3) | exact HI0.out)) (by (with_reducible repeat (first | apply Kd.R_alloc | apply Kd.R_drewN | apply Kd.R_drew)); exact HO_3.out) (by decide)) hk (fun _ h => h.2)) (fun _ h => h.1)); have n1_ := Aside0.mk (KeepBut.trans (by repeat (first | (with_reducible first | exact HK.out | apply KeepBut.set_ | apply keep_drewN | apply keep_drew | apply keep_alloc) | exact HK.out)) hk (.inl rfl)); have n2_ := Aside0.mk (hb); have n3_ := Aside0.mk (hi); clear HO_3; clear HK; clear HB; clear HI0; have HO_3 := n0_; have HK := n1_; have HB := n2_; have HI0 := n3_; clear n0_ n1_ n2_ n3_; (try clear hb); (try clear hb2); (try clear hk); (try clear hi)) | ((with_reducible refine gate_builtin (b := .append) (xs := #[.tmp 27, .tmp 30]) rfl ?_); at_builtin; refine Kd.R_append Kd.string w.heap.size rfl (.tmp 27) (.tmp 30) 43 9 (.string ⟨#[]⟩) 16 rfl Try.underlying43 info9 rfl (by decide) (by omega) u3 x3_1 t170 [.string t170] (fun _ => True) (fun _ => False) rfl rfl ?aP (fun _ hk => hk.elim) ?aF ?aO (Below.refl _ _) ?aS ?aL ?_; (case aP => exact rfl); (case aF => exact (fun _ _ => trivial)); (case aO => exact (by (with_reducible repeat (first | apply Kd.R_alloc | apply Kd.R_drewN | apply Kd.R_drew)); exact HO_3.out)); (case aS => exact (keep_size (w := w) (g := g) (row := none) (by repeat (first | (with_reducible first | exact HK.out | apply KeepBut.set_ | apply keep_drewN | apply keep_drew | apply keep_alloc) | exact HK.out)))); (case aL => have := LMc23.out; omega); intro v175 w25 ho hb hg hat; rw [← Ny174.out] at ho; have n0_ := Aside0.mk (IsS74.grown (by repeat (first | (with_reducible first | exact HI0.out | apply IsS74.alloc | apply IsS74.drewN | apply IsS74.drew | apply IsS74.set_1 | apply IsS74.set_2 | apply IsS74.set_3) | exact HI0.out)) hg (IsS74.own_ne HI0.out HO_3.out (by decide))); have n1_ := Aside0.mk (below_weaken (by repeat (first | (with_reducible first | exact HB.out | apply below_alloc | apply pw_below_drewN | apply below_drew1 | refine below_set ?_ (IsS74.ge HI0.out)) | exact HB.out)) HL.out hb); have n2_ := Aside0.mk (KeepBut.trans (by repeat (first | (with_reducible first | exact HK.out | apply KeepBut.set_ | apply keep_drewN | apply keep_drew | apply keep_alloc) | exact HK.out)) (KeepBut.of_grown hg g) (Kd.R_base2 HO_3.out)); have n3_ := Aside0.mk (ho); clear HI0; clear HB; clear HK; clear HO_3; have HI0 := n0_; have HB := n1_; have HK := n2_; have HO176 := n3_; clear n0_ n1_ n2_ n3_; clear ho hb hg hat))
                    go_roundg kj10
                    case measure => have := HK1.out; have := HJ3.out; have := HJ10.out; omega
                    case rel => exact ⟨(y174), (wrap64 (x4_1 + 1)), (t171), (t172), (t173), (by first | rfl | (simp; done) | (simp [*]; done)), H', ⟨by have := HK1.out; have := HJ3.out; have := HJ10.out; omega⟩, ⟨by (with_reducible repeat (first | apply Kd.R_alloc | apply Kd.R_drewN | apply Kd.R_drew)); exact HO176.out⟩, ⟨by repeat (first | (with_reducible first | exact HI0.out | apply IsS74.alloc | apply IsS74.drewN | apply IsS74.drew | apply IsS74.set_1 | apply IsS74.set_2 | apply IsS74.set_3) | exact HI0.out)⟩, ⟨by repeat (first | (with_reducible first | exact HK.out | apply KeepBut.set_ | apply keep_drewN | apply keep_drew | apply keep_alloc) | exact HK.out)⟩, ⟨by repeat (first | (with_reducible first | exact HB.out | apply below_alloc | apply pw_below_drewN | apply below_drew1 | refine below_set ?_ (IsS74.ge HI0.out)) | exact HB.out)⟩⟩
                  · rw [if_neg c23] at H
                    exact absurd H (by simp)
          · replace c10 := Bool.eq_false_iff.mpr c10
            subst c10
            have H1 : ((say_parser_mark.f s0_0 x1001_3 x1002_3 x1003_3 (⟨#[93]⟩ : ByteArray)).bind fun bt154 => (some (x3_1, bt154.1, bt154.2.1, bt154.2.2))) = some (r1, r2, r3, r4) := by rw [if_neg (show ¬ (false = true) by decide)] at H; exact H
            clear H
            have H := H1
            clear H1
            replace H := Option.bind_eq_some_iff.mp H
            obtain ⟨⟨t154, t155, t156⟩, A260, H⟩ := H
            replace H : (some (x3_1, t154, t155, t156)) = some (r1, r2, r3, r4) := H
            have A26 := Aside0.mk A260
            clear A260
            simp only [Option.some.injEq, Prod.mk.injEq] at H
            obtain ⟨rfl, rfl, rfl, rfl⟩ := H
            go_wp2_with (first | ((with_reducible refine gate_callee (f := 63) rfl ?_); refine goesL_ (some 33) rfl rfl Try.func63 (by kernel_rfl) rfl #[.pointer (some ⟨g, 0, none⟩), .string (⟨#[93]⟩ : ByteArray)] rfl (by (try simp only [List.map_toArray, List.map_cons, List.map_nil]); first | done | rfl | (simp only [List.length_drop, List.length_take]; rfl)) ?_; (with_reducible refine (say_parser_mark.calls g s0_0 x1001_3 x1002_3 x1003_3 (⟨#[93]⟩ : ByteArray) t154 t155 t156 w0 _ ?side1 ?side2 A26.out).mono ?_); (case side1 => repeat (first | (with_reducible first | exact HI0.out | apply IsS74.alloc | apply IsS74.drewN | apply IsS74.drew | apply IsS74.set_1 | apply IsS74.set_2 | apply IsS74.set_3) | exact HI0.out)); (case side2 => repeat (first | (with_reducible first | exact HB.out | apply below_alloc | apply pw_below_drewN | apply below_drew1 | refine below_set ?_ (IsS74.ge HI0.out)) | exact HB.out)); rintro e w27 ⟨rfl, hi, hb, hk⟩; refine ⟨_, rfl, ?_⟩; have n0_ := Aside0.mk (Kd.R_mono (Kd.R_keep (IsS74.apart (show IsS74 w0 _ g s0_0 x1001_3 x1002_3 x1003_3 from by repeat (first | (with_reducible first | exact HI0.out | apply IsS74.alloc | apply IsS74.drewN | apply IsS74.drew | apply IsS74.set_1 | apply IsS74.set_2 | apply IsS74.set_3) | exact HI0.out)) (by (with_reducible repeat (first | apply Kd.R_alloc | apply Kd.R_drewN | apply Kd.R_drew)); exact HO_3.out) (by decide)) hk (fun _ h => h.2)) (fun _ h => h.1)); have n1_ := Aside0.mk (KeepBut.trans (by repeat (first | (with_reducible first | exact HK.out | apply KeepBut.set_ | apply keep_drewN | apply keep_drew | apply keep_alloc) | exact HK.out)) hk (.inl rfl)); have n2_ := Aside0.mk (hb); have n3_ := Aside0.mk (hi); clear HO_3; clear HK; clear HB; clear HI0; have HO_3 := n0_; have HK := n1_; have HB := n2_; have HI0 := n3_; clear n0_ n1_ n2_ n3_; (try clear hb); (try clear hb2); (try clear hk); (try clear hi)))
            go_ret
            exact ⟨_, by first | rfl | (simp [errW_none, errW_some] <;> rfl) | (simp [*, errW_none, errW_some] <;> rfl), by (with_reducible repeat (first | apply Kd.R_alloc | apply Kd.R_drewN | apply Kd.R_drew)); exact HO_3.out, by repeat (first | (with_reducible first | exact HI0.out | apply IsS74.alloc | apply IsS74.drewN | apply IsS74.drew | apply IsS74.set_1 | apply IsS74.set_2 | apply IsS74.set_3) | exact HI0.out), by repeat (first | (with_reducible first | exact HB.out | apply below_alloc | apply pw_below_drewN | apply below_drew1 | refine below_set ?_ (IsS74.ge HI0.out)) | exact HB.out), by repeat (first | (with_reducible first | exact HK.out | apply KeepBut.set_ | apply keep_drewN | apply keep_drew | apply keep_alloc) | exact HK.out)⟩

end Go.Proofs.Ytokkjnfdfbpphaa.A
namespace Go.Proofs.Ytokkjnfdfbpphaa.A
open Go.RowKit Go.Proofs.YtokkjnfdfbpphaaW.PrintWords Go.Proofs.YtokkjnfdfbpphaaW.PrintLast Go.Proofs.YtokkjnfdfbpphaaW.PrintMore
attribute [local go_sem] max2_int min2_int max_two min_two max_three min_three max_four min_four   -- for this text's walks alone
set_option linter.unusedVariables false
set_option linter.unusedSimpArgs false

/-- A paper under way: the parser, the answer's cell, the paper's own block, its fields. -/
structure Pa (w0 w wc : World) (g : Nat) (s0 : List S28) (s1 s2 s3 : Int) (gp : Nat) (x : ByteArray) (c : Int) (v : Value) (acc : List S87) : Prop where
  f : Fr w0 w wc g s0 s1 s2 s3 w.heap.size #[.string ⟨#[]⟩, .int .i64 0, .slice none 0 0] 42
  box : wc.heap[gp]? = some (.cells #[.string x, .int .i64 c, v] 42 (0, 0))
  ge : w.heap.size < gp
  own : Kd.R k87 87 wc w.heap.size (fun k => k ≠ g ∧ k ≠ w.heap.size ∧ k ≠ gp) v acc
theorem Pa.gpg {w0 w wc : World} {g : Nat} {s0 : List S28} {s1 s2 s3 : Int} {gp : Nat} {x : ByteArray} {c : Int} {v : Value} {acc : List S87} (h : Pa w0 w wc g s0 s1 s2 s3 gp x c v acc) (hg : g < w.heap.size) : gp ≠ g := fun e => by have := h.ge; omega
theorem Pa.call {w0 w wc w2 : World} {g : Nat} {s0 : List S28} {s1 s2 s3 r1 r2 r3 : Int} {gp : Nat} {x : ByteArray} {c : Int} {v : Value} {acc : List S87} (h : Pa w0 w wc g s0 s1 s2 s3 gp x c v acc) (hg : g < w.heap.size)
    (hi : IsS74 w0 w2 g s0 r1 r2 r3) (hb : Below w0.heap.size w0 w2) (hk : KeepBut wc w2 g none) : Pa w0 w w2 g s0 r1 r2 r3 gp x c v acc :=
  ⟨h.f.call hi hb hk, KeepBut.blk hk h.box (h.gpg hg) (by simp), h.ge, Kd.R_keep h.own hk (fun _ h => h.1)⟩
theorem Pa.quiet {w0 w wc w2 : World} {g : Nat} {s0 : List S28} {s1 s2 s3 : Int} {gp : Nat} {x : ByteArray} {c : Int} {v : Value} {acc : List S87} (h : Pa w0 w wc g s0 s1 s2 s3 gp x c v acc)
    (hb : Below wc.heap.size wc w2) : Pa w0 w w2 g s0 s1 s2 s3 gp x c v acc :=
  ⟨h.f.quiet hb, (hb.block _ (blk_lt h.box)).trans h.box, h.ge, Kd.R_below h.own hb⟩
theorem Pa.alloc {w0 w wc : World} {g : Nat} {s0 : List S28} {s1 s2 s3 : Int} {gp : Nat} {x : ByteArray} {c : Int} {v : Value} {acc : List S87} (h : Pa w0 w wc g s0 s1 s2 s3 gp x c v acc) (o : Obj) : Pa w0 w (wc.alloc o) g s0 s1 s2 s3 gp x c v acc :=
  h.quiet (below_alloc (Below.refl _ _) o)
/-- A store into a block that is younger than the call and none of these. -/
theorem Pa.far {w0 w wc : World} {g : Nat} {s0 : List S28} {s1 s2 s3 : Int} {gp : Nat} {x : ByteArray} {c : Int} {v : Value} {acc : List S87} (h : Pa w0 w wc g s0 s1 s2 s3 gp x c v acc) {p : Addr} (hp : gp < p.block) (ho : ∀ k, v.ownBlock = some k → k ≠ p.block) (hE : g < w.heap.size) (u : Value) :
    Pa w0 w (wc.setCell p u) g s0 s1 s2 s3 gp x c v acc := by
  have hg := h.ge
  have hl := h.f.lt
  refine ⟨⟨h.f.i.far (by omega) u, h.f.b.setCell (by omega) u, keep_far h.f.k (by omega) u, h.f.ge, h.f.lt, h.f.ne, blk_far h.f.box (by omega) u⟩, blk_far h.box (by omega) u, h.ge, ?_⟩
  have h2 := Kd.R_far1 h.own rfl (g := p.block) (fun e => ho _ e.symm rfl)
  exact Kd.R_mono (Kd.R_far h2 (fun _ h => h.2) u) (fun _ h => h.1)
theorem Pa.appended {w0 w wc w1 : World} {g : Nat} {s0 : List S28} {s1 s2 s3 : Int} {gp : Nat} {x : ByteArray} {c : Int} {v v1 : Value} {acc acc1 : List S87} (h : Pa w0 w wc g s0 s1 s2 s3 gp x c v acc)
    (hg : wc.grownBy w1 v.ownBlock) (ho : Kd.R k87 87 w1 w.heap.size (fun k => k ≠ g ∧ k ≠ w.heap.size ∧ k ≠ gp) v1 acc1) :
    w1.cell? ⟨gp, 2, none⟩ = some v ∧ w1.frozen? ⟨gp, 2, none⟩ = false ∧ Pa w0 w (w1.setCell ⟨gp, 2, none⟩ v1) g s0 s1 s2 s3 gp x c v1 acc1 := by
  have hok := h.own.1
  have hbase := Kd.R_base h.own
  have hne : ∀ k, (k = g ∨ k = w.heap.size ∨ k = gp) → some k ≠ v.ownBlock := by
    intro k hk e
    have := hok k e.symm
    rcases hk with rfl | rfl | rfl
    · exact this.1 rfl
    · exact this.2.1 rfl
    · exact this.2.2 rfl
  have hb1 : w1.heap[gp]? = some (.cells #[.string x, .int .i64 c, v] 42 (0, 0)) := blk_grown h.box hg (hne _ (.inr (.inr rfl)))
  have hB : Below w0.heap.size w0 w1 := h.f.b.grown hg h.f.b.size (fun k hk => Nat.le_trans h.f.lt (hbase k hk))
  have hK : KeepBut w w1 g none := h.f.k.trans (KeepBut.of_grown hg g) (by
    cases hv : v.ownBlock with
    | none => exact .inl rfl
    | some b => exact .inr ⟨b, rfl, hbase b hv⟩)
  have hF : Fr w0 w w1 g s0 s1 s2 s3 w.heap.size #[.string ⟨#[]⟩, .int .i64 0, .slice none 0 0] 42 := ⟨h.f.i.grown hg (hne _ (.inl rfl)), hB, hK, h.f.ge, h.f.lt, h.f.ne, blk_grown h.f.box hg (hne _ (.inr (.inl rfl)))⟩
  have hgp := h.ge
  have hgg : g ≠ gp := by
    intro e
    have := hb1
    obtain ⟨A, cc, hb, _, _⟩ := hF.i
    rw [← e, hb] at this
    simp at this
  refine ⟨(blk_cell hb1 2).trans rfl, blk_frozen hb1 2, ⟨hF.i.far hgg v1, hF.b.setCell (by have := h.f.lt; simp only; omega) v1, keep_far hF.k (by simp only; omega) v1, hF.ge, hF.lt, hF.ne, blk_far hF.box (by simp only; omega) v1⟩, blk_put hb1 2 v1 rfl, h.ge, Kd.R_far ho (fun _ h => h.2.2) v1⟩

end Go.Proofs.Ytokkjnfdfbpphaa.A
namespace Go.Proofs.Ytokkjnfdfbpphaa.A
open Go.RowKit Go.Proofs.YtokkjnfdfbpphaaW.PrintWords Go.Proofs.YtokkjnfdfbpphaaW.PrintLast Go.Proofs.YtokkjnfdfbpphaaW.PrintMore
attribute [local go_sem] max2_int min2_int max_two min_two max_three min_three max_four min_four   -- for this text's walks alone
set_option linter.unusedVariables false
set_option linter.unusedSimpArgs false

/-! ### say_parser_paper: function 74 -/
/-- Is there more of a paper? -/
def moreP (s0 : List S28) (s1 s2 s3 : Int) (m : ByteArray) : Option (Bool × Int × Int × Int) :=
  if s3 < 0 then (say_parser_peek.f s0 s1 s2 s3 m).bind fun t => some (!t.1, t.2.1, t.2.2.1, t.2.2.2) else some (false, s1, s2, s3)
def commaP (s0 : List S28) (n : Int) (s1 s2 s3 : Int) : Option (Int × Int × Int) := if n > 0 then say_parser_mark.f s0 s1 s2 s3 ⟨#[44]⟩ else some (s1, s2, s3)
def manyP (s0 : List S28) (n : Int) (s1 s2 s3 : Int) : Option (Int × Int × Int) := if n ≥ 100 then say_parser_fail.f s0 s1 s2 s3 else some (s1, s2, s3)
def fieldP (k : Nat) (s0 : List S28) (s1 s2 s3 : Int) : Option (S87 × Int × Int × Int) :=
  (say_parser_take.f s0 s1 s2 s3 2).bind fun c => (say_parser_mark.f s0 c.2.1 c.2.2.1 c.2.2.2 ⟨#[61]⟩).bind fun d =>
    (say_parser_value.f k s0 d.1 d.2.1 d.2.2).bind fun v => some (⟨c.1, ⟨v.1, v.2.1, v.2.2.1, v.2.2.2.1, v.2.2.2.2.1⟩⟩, v.2.2.2.2.2.1, v.2.2.2.2.2.2.1, v.2.2.2.2.2.2.2)
/-- A paper's fields. -/
def paperL : Nat → List S28 → List S87 → Int → Int → Int → Option (List S87 × Int × Int × Int)
  | 0, _, _, _, _, _ => none
  | k + 1, s0, acc, s1, s2, s3 => (moreP s0 s1 s2 s3 ⟨#[41]⟩).bind fun q =>
    if q.1 = true then
      if acc.length < 2199023255552 then
        (commaP s0 acc.length q.2.1 q.2.2.1 q.2.2.2).bind fun a => (manyP s0 acc.length a.1 a.2.1 a.2.2).bind fun b => (fieldP k s0 b.1 b.2.1 b.2.2).bind fun f => paperL k s0 (acc ++ [f.1]) f.2.1 f.2.2.1 f.2.2.2
      else none
    else (say_parser_mark.f s0 q.2.1 q.2.2.1 q.2.2.2 ⟨#[41]⟩).bind fun d => some (acc, d.1, d.2.1, d.2.2)
def say_parser_paper.f (k : Nat) (s0_0 : List (S28)) (s0_1 : Int) (s0_2 : Int) (s0_3 : Int) : Option (ByteArray × Int × (List (S87)) × Int × Int × Int) :=
  (say_parser_take.f s0_0 s0_1 s0_2 s0_3 2).bind fun x => (say_parser_number.f s0_0 x.2.1 x.2.2.1 x.2.2.2).bind fun c => (say_parser_mark.f s0_0 c.2.1 c.2.2.1 c.2.2.2 ⟨#[40]⟩).bind fun m =>
    (paperL k s0_0 [] m.1 m.2.1 m.2.2).bind fun l => some (x.1, c.1, l.1, l.2.1, l.2.2.1, l.2.2.2)
theorem fieldP_mono (s0 : List S28) (s1 s2 s3 : Int) (k : Nat) : LeO (fieldP k s0 s1 s2 s3) (fieldP (k + 1) s0 s1 s2 s3) := by
  unfold fieldP
  exact LeO.bind (LeO.refl _) fun _ => LeO.bind (LeO.refl _) fun _ => LeO.bind (say_parser_value.mono _ _ _ _ _) fun _ => LeO.refl _
theorem paperL_mono : ∀ k s0 acc s1 s2 s3, LeO (paperL k s0 acc s1 s2 s3) (paperL (k + 1) s0 acc s1 s2 s3)
  | 0, _, _, _, _, _ => LeO.none _
  | k + 1, s0, acc, s1, s2, s3 => by
    unfold paperL
    refine LeO.bind (LeO.refl _) fun q => LeO.ite (LeO.ite ?_ (LeO.refl _)) (LeO.refl _)
    exact LeO.bind (LeO.refl _) fun a => LeO.bind (LeO.refl _) fun b => LeO.bind (fieldP_mono _ _ _ _ _) fun f => paperL_mono k _ _ _ _ _
theorem say_parser_paper.mono : ∀ a0 a1 a2 a3 k, LeO (say_parser_paper.f k a0 a1 a2 a3) (say_parser_paper.f (k + 1) a0 a1 a2 a3) := by
  intro a0 a1 a2 a3 k
  unfold say_parser_paper.f
  exact LeO.bind (LeO.refl _) fun _ => LeO.bind (LeO.refl _) fun _ => LeO.bind (LeO.refl _) fun _ => LeO.bind (paperL_mono _ _ _ _ _ _) fun _ => LeO.refl _
theorem val6 {w : World} {b : Nat} {a0 a1 a2 a3 a4 a5 : Value} {T : TypeId} (h : w.heap[b]? = some (.cells #[a0, a1, a2, a3, a4, a5] T (0, 0))) :
    w.cell? ⟨b, 0, none⟩ = some a0 ∧ w.cell? ⟨b, 1, none⟩ = some a1 ∧ w.cell? ⟨b, 2, none⟩ = some a2 ∧ w.cell? ⟨b, 3, none⟩ = some a3 ∧ w.cell? ⟨b, 4, none⟩ = some a4 ∧ w.cell? ⟨b, 5, none⟩ = some a5 ∧
    w.frozen? ⟨b, 0, none⟩ = false ∧ w.frozen? ⟨b, 1, none⟩ = false ∧ w.frozen? ⟨b, 2, none⟩ = false ∧ w.frozen? ⟨b, 3, none⟩ = false ∧ w.frozen? ⟨b, 4, none⟩ = false ∧ w.frozen? ⟨b, 5, none⟩ = false :=
  ⟨(blk_cell h 0).trans rfl, (blk_cell h 1).trans rfl, (blk_cell h 2).trans rfl, (blk_cell h 3).trans rfl, (blk_cell h 4).trans rfl, (blk_cell h 5).trans rfl, blk_frozen h 0, blk_frozen h 1, blk_frozen h 2, blk_frozen h 3, blk_frozen h 4, blk_frozen h 5⟩
set_option maxRecDepth 100000 in
set_option maxHeartbeats 4000000 in
theorem say_parser_paper.calls (k : Nat) (g : Nat) (s0_0 : List (S28)) (s0_1 : Int) (s0_2 : Int) (s0_3 : Int) (r1 : ByteArray) (r2 : Int) (r3 : List (S87)) (r4 : Int) (r5 : Int) (r6 : Int) (w0 w : World) (hI : IsS74 w0 w g s0_0 s0_1 s0_2 s0_3) (hB : Below w0.heap.size w0 w) (h : say_parser_paper.f k s0_0 s0_1 s0_2 s0_3 = some (r1, r2, r3, r4, r5, r6)) :
    Calls Try.prog 74 #[.pointer (some ⟨g, 0, none⟩)] w fun e w' => ∃ v2_ : Value, e = .returned (.agg #[.string r1, .int .i64 r2, v2_]) ∧ Kd.R k87 87 w' w.heap.size (fun _ => True) v2_ r3 ∧ IsS74 w0 w' g s0_0 r4 r5 r6 ∧ Below w0.heap.size w0 w' ∧ KeepBut w w' g none := by
  unfold say_parser_paper.f at h
  obtain ⟨⟨x, x1, x2, x3⟩, hx, h⟩ := Option.bind_eq_some_iff.mp h
  obtain ⟨⟨c, c1, c2, c3⟩, hc, h⟩ := Option.bind_eq_some_iff.mp h
  obtain ⟨⟨m1, m2, m3⟩, hm, h⟩ := Option.bind_eq_some_iff.mp h
  obtain ⟨⟨l, l1, l2, l3⟩, hl, h⟩ := Option.bind_eq_some_iff.mp h
  simp only [Option.some.injEq, Prod.mk.injEq] at h
  obtain ⟨rfl, rfl, rfl, rfl, rfl, rfl⟩ := h
  have HX := Aside0.mk hx
  have HC := Aside0.mk hc
  have HM := Aside0.mk hm
  have HL := Aside0.mk hl
  have HG := Aside0.mk (IsS74.lt hI)
  have HF := Aside0.mk (Fr.start hI hB #[.string ⟨#[]⟩, .int .i64 0, .slice none 0 0] 42)
  clear hx hc hm hl hI hB
  go_enter Try.func74, Try.ntmps74
  go_wp2_with fail
  refine (say_parser_take.calls g s0_0 s0_1 s0_2 s0_3 2 _ _ _ _ w0 _ HF.out.i HF.out.b HX.out).mono ?_
  rintro e w2 ⟨rfl, hi, hb, hk⟩
  replace HF := Aside0.mk (HF.out.call hi hb hk)
  clear hi hb hk HX
  go_wp2_with fail
  refine (say_parser_number.calls g s0_0 x1 x2 x3 _ _ _ _ w0 _ HF.out.i HF.out.b HC.out).mono ?_
  rintro e w3 ⟨rfl, hi, hb, hk⟩
  replace HF := Aside0.mk (HF.out.call hi hb hk)
  clear hi hb hk HC
  have HP : Aside0 (Pa w0 w (w3.alloc (.cells #[.string x, .int .i64 c, .slice none 0 0] 42)) g s0_0 c1 c2 c3 w3.heap.size x c (.slice none 0 0) []) := ⟨⟨HF.out.alloc _, blk_new _ _, blk_lt HF.out.box, Kd.R_nil _ _ _ _ _⟩⟩
  go_wp2_with fail
  refine (say_parser_mark.calls g s0_0 c1 c2 c3 _ _ _ _ w0 _ HP.out.f.i HP.out.f.b HM.out).mono ?_
  rintro e w4 ⟨rfl, hi, hb, hk⟩
  replace HP := Aside0.mk (HP.out.call HG.out hi hb hk)
  clear hi hb hk HM HF
  revert HP
  generalize w3.heap.size = gp
  intro HP
  go_wp2_with fail
  go_loopg [4] k (fun kq v4 w' => ∃ (acc : List S87) (n : Int) (v : Value) (s1 s2 s3 : Int), v4 = .int .i64 n ∧ Aside0 (n = (acc.length : Int)) ∧ Aside0 (paperL kq s0_0 acc s1 s2 s3 = some (l, l1, l2, l3)) ∧ Aside0 (Pa w0 w w' g s0_0 s1 s2 s3 gp x c v acc))
  case atStart => exact ⟨[], 0, _, _, _, _, rfl, ⟨rfl⟩, HL, HP⟩
  case round =>
    clear HL HP
    obtain ⟨acc, n, v, s1, s2, s3, rfl, HNN, HL, HP⟩ := hrel
    cases gk with
    | zero => exact absurd HL.out (by simp [paperL])
    | succ k1 =>
      obtain ⟨⟨more, q1, q2, q3⟩, hm, h⟩ := Option.bind_eq_some_iff.mp HL.out
      have HM := Aside0.mk hm
      have H := Aside0.mk h
      clear hm h HL
      obtain ⟨A0, c0, hc0, hc1, hc2, hc3, hz1, hz3, hC⟩ := HP.out.f.facts
      clear hC
      go_upto_region 4 with (fail)
      go_cut [22] (fun v22 wc => v22 = .bool more ∧ Aside0 (Pa w0 w wc g s0_0 q1 q2 q3 gp x c v acc))
      case first =>
        clear H
        have h := HM.out
        unfold moreP at h
        by_cases h3 : s3 < 0
        · rw [if_pos h3] at h
          obtain ⟨⟨t, t1, t2, t3⟩, hp, h⟩ := Option.bind_eq_some_iff.mp h
          simp only [Option.some.injEq, Prod.mk.injEq] at h
          obtain ⟨rfl, rfl, rfl, rfl⟩ := h
          have HQ := Aside0.mk hp
          have hd : decide (s3 < 0) = true := decide_eq_true h3
          clear hp HM
          go_wp2_with fail
          refine (say_parser_peek.calls g s0_0 s1 s2 s3 _ _ _ _ _ w0 _ HP.out.f.i HP.out.f.b HQ.out).mono ?_
          rintro e w5 ⟨rfl, hi, hb, hk⟩
          replace HP := Aside0.mk (HP.out.call HG.out hi hb hk)
          clear hi hb hk
          go_wp2_with fail
          go_meet
          case rel => exact ⟨rfl, HP⟩
        · rw [if_neg h3] at h
          simp only [Option.some.injEq, Prod.mk.injEq] at h
          obtain ⟨rfl, rfl, rfl, rfl⟩ := h
          have hd : decide (s3 < 0) = false := decide_eq_false h3
          go_wp2_with fail
          go_meet
          case rel => exact ⟨rfl, HP⟩
      case rest =>
        clear hc0 hc1 hc2 hc3 hz1 hz3 HM HP
        obtain ⟨rfl, HP⟩ := hcut
        by_cases hmore : more = true
        · subst hmore
          have h := (if_pos rfl).symm.trans H.out
          by_cases hlen : acc.length < 2199023255552
          · rw [if_pos hlen] at h
            obtain ⟨⟨a1, a2, a3⟩, ha, h⟩ := Option.bind_eq_some_iff.mp h
            obtain ⟨⟨b1, b2, b3⟩, hb, h⟩ := Option.bind_eq_some_iff.mp h
            obtain ⟨⟨fx, f1, f2, f3⟩, hf, h⟩ := Option.bind_eq_some_iff.mp h
            rw [← HNN.out] at ha hb
            have HA := Aside0.mk ha
            have HB := Aside0.mk hb
            have HF := Aside0.mk hf
            have HN := Aside0.mk h
            have HLEN := Aside0.mk hlen
            clear ha hb hf h hlen H
            go_upto_if 26 with (fail)
            go_cut [] (fun wc => Aside0 (Pa w0 w wc g s0_0 a1 a2 a3 gp x c v acc))
            case first =>
              have h := HA.out
              clear HA
              unfold commaP at h
              by_cases hz : n > 0
              · rw [if_pos hz] at h
                have HQ := Aside0.mk h
                have hd : decide (0 < n) = true := decide_eq_true hz
                (first | rw [hd] | (simp only [i64_w, i32_w]; rw [hd]) | skip)
                clear h hz
                go_wp2_with fail
                refine (say_parser_mark.calls g s0_0 q1 q2 q3 _ _ _ _ w0 _ HP.out.f.i HP.out.f.b HQ.out).mono ?_
                rintro e w5 ⟨rfl, hi, hb, hk⟩
                replace HP := Aside0.mk (HP.out.call HG.out hi hb hk)
                clear hi hb hk
                go_wp2_with fail
                go_meet
                case rel => exact HP
              · rw [if_neg hz] at h
                simp only [Option.some.injEq, Prod.mk.injEq] at h
                obtain ⟨rfl, rfl, rfl⟩ := h
                have hd : decide (0 < n) = false := decide_eq_false hz
                (first | rw [hd] | (simp only [i64_w, i32_w]; rw [hd]) | skip)
                clear hz
                go_wp2_with fail
                go_meet
                case rel => exact HP
            case rest =>
              clear HA HP
              have HP := hcut
              clear hcut
              go_upto_if 30 with (fail)
              go_cut [] (fun wc => Aside0 (Pa w0 w wc g s0_0 b1 b2 b3 gp x c v acc))
              case first =>
                have h := HB.out
                clear HB
                unfold manyP at h
                by_cases hz : n ≥ 100
                · rw [if_pos hz] at h
                  have HQ := Aside0.mk h
                  have hd : decide (100 ≤ n) = true := decide_eq_true hz
                  (first | rw [hd] | (simp only [i64_w, i32_w]; rw [hd]) | skip)
                  clear h hz
                  go_wp2_with fail
                  refine (say_parser_fail.calls g s0_0 a1 a2 a3 _ _ _ w0 _ HP.out.f.i HP.out.f.b HQ.out).mono ?_
                  rintro e w5 ⟨rfl, hi, hb, hk⟩
                  replace HP := Aside0.mk (HP.out.call HG.out hi hb hk)
                  clear hi hb hk
                  go_wp2_with fail
                  go_meet
                  case rel => exact HP
                · rw [if_neg hz] at h
                  simp only [Option.some.injEq, Prod.mk.injEq] at h
                  obtain ⟨rfl, rfl, rfl⟩ := h
                  have hd : decide (100 ≤ n) = false := decide_eq_false hz
                  (first | rw [hd] | (simp only [i64_w, i32_w]; rw [hd]) | skip)
                  clear hz
                  go_wp2_with fail
                  go_meet
                  case rel => exact HP
              case rest =>
                clear HB HP
                have HP := hcut
                clear hcut
                obtain ⟨⟨y, y1, y2, y3⟩, hy, h⟩ := Option.bind_eq_some_iff.mp HF.out
                obtain ⟨⟨d1, d2, d3⟩, hd, h⟩ := Option.bind_eq_some_iff.mp h
                obtain ⟨⟨e1, e2, e3, e4, e5, e6, e7, e8⟩, he, h⟩ := Option.bind_eq_some_iff.mp h
                simp only [Option.some.injEq, Prod.mk.injEq] at h
                obtain ⟨rfl, rfl, rfl, rfl⟩ := h
                have HY := Aside0.mk hy
                have HD := Aside0.mk hd
                have HE := Aside0.mk he
                clear hy hd he HF
                obtain ⟨Av, cv, rfl⟩ := Kd.R_slice HP.out.own
                go_wp2_with fail
                refine (say_parser_take.calls g s0_0 b1 b2 b3 2 _ _ _ _ w0 _ HP.out.f.i HP.out.f.b HY.out).mono ?_
                rintro e w5 ⟨rfl, hi, hb, hk⟩
                have HP5 := Aside0.mk (HP.out.call HG.out hi hb hk)
                have HV : Aside0 (gp < w5.heap.size ∧ ∀ k, (Value.slice Av acc.length cv).ownBlock = some k → k ≠ w5.heap.size) := ⟨blk_lt HP5.out.box, fun k hk => by have := Kd.R_lt HP5.out.own k hk; omega⟩
                replace HP := Aside0.mk (HP5.out.alloc (.cells #[.string y, .int .i64 0, .bool false, .int .i64 0, .int .u64 0, .string ⟨#[]⟩] 87))
                have HQ := Aside0.mk (blk_new w5 (.cells #[.string y, .int .i64 0, .bool false, .int .i64 0, .int .u64 0, .string ⟨#[]⟩] 87))
                clear hi hb hk HY HP5
                go_wp2_with fail
                refine (say_parser_mark.calls g s0_0 y1 y2 y3 _ _ _ _ w0 _ HP.out.f.i HP.out.f.b HD.out).mono ?_
                rintro e w6 ⟨rfl, hi, hb, hk⟩
                replace HP := Aside0.mk (HP.out.call HG.out hi hb hk)
                replace HQ := Aside0.mk (KeepBut.blk hk HQ.out (fun e => by have := HG.out; have := HP.out.ge; have := HV.out.1; omega) (by simp))
                clear hi hb hk HD
                revert HP HQ HV
                generalize w5.heap.size = gf
                intro HV HP HQ
                go_wp2_with fail
                refine (say_parser_value.calls k1 g s0_0 d1 d2 d3 _ _ _ _ _ _ _ _ w0 _ HP.out.f.i HP.out.f.b HE.out).mono ?_
                rintro e w7 ⟨rfl, hi, hb, hk⟩
                replace HP := Aside0.mk (HP.out.call HG.out hi hb hk)
                replace HQ := Aside0.mk (KeepBut.blk hk HQ.out (fun e => by have := HG.out; have := HP.out.ge; have := HV.out.1; omega) (by simp))
                clear hi hb hk HE
                obtain ⟨t0, t1, t2, t3, t4, t5, u0, u1, u2, u3, u4, u5⟩ := val6 HQ.out
                obtain ⟨p0, p1, p2, r0, r1, r2⟩ := tok3 HP.out.box
                have hgf : gf ≠ gp := by have := HV.out.1; omega
                have HP2 := Aside0.mk (((((HP.out.far (p := ⟨gf, 1, none⟩) HV.out.1 HV.out.2 HG.out (.int .i64 e1)).far (p := ⟨gf, 2, none⟩) HV.out.1 HV.out.2 HG.out (.bool e2)).far (p := ⟨gf, 3, none⟩) HV.out.1 HV.out.2 HG.out (.int .i64 e3)).far (p := ⟨gf, 4, none⟩) HV.out.1 HV.out.2 HG.out (.int .u64 e4)).far (p := ⟨gf, 5, none⟩) HV.out.1 HV.out.2 HG.out (.string e5))
                clear HQ HV HP
                go_wp2_with (at_builtin; refine Kd.R_append k87 w.heap.size rfl (.tmp 42) (.tmp 44) 40 87 (.agg #[(.string ⟨#[]⟩), (.int .i64 0), (.bool false), (.int .i64 0), (.int .u64 0), (.string ⟨#[]⟩)]) 64 rfl Try.underlying40 info87 rfl (by decide) (by omega) (.slice Av acc.length cv) acc (⟨y, ⟨e1, e2, e3, e4, e5⟩⟩ : S87) [.string y, .int .i64 e1, .bool e2, .int .i64 e3, .int .u64 e4, .string e5] (fun k => k ≠ g ∧ k ≠ w.heap.size ∧ k ≠ gp) (fun _ => False) rfl (by first | (go_simp; done) | (go_simp; rfl)) ?aP (fun _ hk => hk.elim) ?aF ?aO (Below.refl _ _) ?aS ?aL ?_)
                case aP => exact k87_mkM _ _ _ (⟨y, ⟨e1, e2, e3, e4, e5⟩⟩ : S87)
                case aF => intro k_ hk; have := blk_lt HP2.out.box; have := HP2.out.ge; have := HG.out; omega
                case aO => exact HP2.out.own
                case aS => exact HP2.out.f.k.1
                case aL => have := HLEN.out; omega
                have hn2 : wrap64 (n + 1) = ((acc ++ [(⟨y, ⟨e1, e2, e3, e4, e5⟩⟩ : S87)]).length : Int) := by
                  rw [HNN.out]
                  have hl := HLEN.out
                  simp only [List.length_append, List.length_singleton, wrap64]
                  omega
                revert HN
                generalize acc ++ [(⟨y, ⟨e1, e2, e3, e4, e5⟩⟩ : S87)] = acc2 at hn2 ⊢
                intro HN v1 w9 ho hb hg hat
                have HN2 := Aside0.mk hn2
                clear hn2
                obtain ⟨A1, cp1, rfl⟩ := Kd.R_slice ho
                obtain ⟨hc, hz, hp⟩ := HP2.out.appended hg ho
                have HP := Aside0.mk hp
                clear hp ho hb hg hat HP2
                go_wp2_with fail
                go_roundg k1
                case measure => omega
                case rel =>
                  exact ⟨acc2, _, _, _, _, _, rfl, ⟨HN2.out⟩, HN, HP⟩
          · rw [if_neg hlen] at h
            exact absurd h (by simp)
        · replace hmore := Bool.eq_false_iff.mpr hmore
          subst hmore
          obtain ⟨⟨d1, d2, d3⟩, hd, h⟩ := Option.bind_eq_some_iff.mp ((if_neg (by simp)).symm.trans H.out)
          simp only [Option.some.injEq, Prod.mk.injEq] at h
          obtain ⟨rfl, rfl, rfl, rfl⟩ := h
          have HQ := Aside0.mk hd
          clear hd H
          go_wp2_with fail
          refine (say_parser_mark.calls g s0_0 q1 q2 q3 _ _ _ _ w0 _ HP.out.f.i HP.out.f.b HQ.out).mono ?_
          rintro e w5 ⟨rfl, hi, hb, hk⟩
          replace HP := Aside0.mk (HP.out.call HG.out hi hb hk)
          clear hi hb hk
          obtain ⟨Av, cv, rfl⟩ := Kd.R_slice HP.out.own
          obtain ⟨t0, t1, t2, u0, u1, u2⟩ := tok3 HP.out.box
          obtain ⟨y0, y1, y2, z0, z1, z2⟩ := tok3 HP.out.f.box
          have HF := Aside0.mk (HP.out.f.three (.string x) (.int .i64 c) (.slice Av acc.length cv))
          have HR := Aside0.mk (Kd.R_mono (Kd.R_far (Kd.R_far (Kd.R_far HP.out.own (p := ⟨w.heap.size, 0, none⟩) (fun _ h => h.2.1) (.string x)) (p := ⟨w.heap.size, 1, none⟩) (fun _ h => h.2.1) (.int .i64 c)) (p := ⟨w.heap.size, 2, none⟩) (fun _ h => h.2.1) (.slice Av acc.length cv)) (fun _ _ => trivial))
          go_wp2_with fail
          exact bodyPost_ret (results_cell_row rfl _ _ _ 42 _ (0, 0) _ rfl HF.out.box Try.underlying42 rfl (by kernel_rfl)) rfl ⟨_, rfl, HR.out, HF.out.i, HF.out.b, HF.out.k⟩

end Go.Proofs.Ytokkjnfdfbpphaa.A
namespace Go.Proofs.Ytokkjnfdfbpphaa.A
open Go.RowKit Go.Proofs.YtokkjnfdfbpphaaW.PrintWords Go.Proofs.YtokkjnfdfbpphaaW.PrintLast Go.Proofs.YtokkjnfdfbpphaaW.PrintMore
attribute [local go_sem] max2_int min2_int max_two min_two max_three min_three max_four min_four   -- for this text's walks alone
set_option linter.unusedVariables false
set_option linter.unusedSimpArgs false

def argF (k : Nat) (s0 : List S28) (s1 s2 s3 : Int) (x : S45) (kind : Int) : Option (S45 × Int × Int × Int) :=
  if kind = 0 then (say_parser_take.f s0 s1 s2 s3 2).bind fun q => some ({ x with f2 := q.1 }, q.2.1, q.2.2.1, q.2.2.2)
  else if kind = 1 then (say_parser_take.f s0 s1 s2 s3 2).bind fun q => some ({ x with f3 := q.1 }, q.2.1, q.2.2.1, q.2.2.2)
  else if kind = 2 then (say_parser_names.f k s0 s1 s2 s3).bind fun q => some ({ x with f4 := q.1 }, q.2.1, q.2.2.1, q.2.2.2)
  else if kind = 3 then (say_parser_number.f s0 s1 s2 s3).bind fun q => some ({ x with f6 := q.1 }, q.2.1, q.2.2.1, q.2.2.2)
  else if kind = 4 then (say_parser_number.f s0 s1 s2 s3).bind fun q => some ({ x with f7 := q.1 }, q.2.1, q.2.2.1, q.2.2.2)
  else if kind = 5 then (say_parser_count.f k s0 s1 s2 s3).bind fun q => some ({ x with f8 := q.1 }, q.2.1, q.2.2.1, q.2.2.2)
  else if kind = 6 then (say_parser_number.f s0 s1 s2 s3).bind fun q => some ({ x with f9 := q.1 }, q.2.1, q.2.2.1, q.2.2.2)
  else if kind = 7 then (say_parser_take.f s0 s1 s2 s3 2).bind fun q => some ({ x with f5 := q.1 }, q.2.1, q.2.2.1, q.2.2.2)
  else if kind = 8 then (say_parser_paper.f k s0 s1 s2 s3).bind fun q => some ({ x with f1 := ⟨q.1, q.2.1, q.2.2.1⟩ }, q.2.2.2.1, q.2.2.2.2.1, q.2.2.2.2.2)
  else none
def ArgPost (w0 w w' : World) (B g ga : Nat) (s0 : List S28) (q : S45 × Int × Int × Int) (e : Ending) : Prop :=
  e = .returned (.tuple #[]) ∧ IsS74 w0 w' g s0 q.2.1 q.2.2.1 q.2.2.2 ∧ Below w0.heap.size w0 w' ∧ KeepBut w w' g (some ga) ∧ ∃ v3 v6, Ob w' B g ga q.1 v3 v6
theorem arg_own {α : Type} {d : Kd α} {e : Nat} {w w2 : World} {B g ga : Nat} {v : Value} {xs : List α} (hB : B ≤ w.heap.size) (hga : ga < w.heap.size) (hg : g < w.heap.size) (h : Kd.R d e w2 w.heap.size (fun _ => True) v xs) :
    Kd.R d e w2 B (fun k => k ≠ ga ∧ k ≠ g) v xs :=
  Kd.R_lower (Kd.R_mono (Kd.R_bound h) (fun k hk => ⟨by have := hk.2.1; omega, by have := hk.2.1; omega⟩)) hB
set_option maxRecDepth 100000 in
set_option maxHeartbeats 4000000 in
theorem arg_calls (k g : Nat) (s0 : List S28) (s1 s2 s3 : Int) (B ga : Nat) (x : S45) (v3 v6 : Value) (kind : Int) (q : S45 × Int × Int × Int) (w0 w : World) (hI : IsS74 w0 w g s0 s1 s2 s3) (hB : Below w0.heap.size w0 w)
    (hO : Ob w B g ga x v3 v6) (hne : ga ≠ g) (hga : w0.heap.size ≤ ga) (hBw : B ≤ w.heap.size) (h : argF k s0 s1 s2 s3 x kind = some q) :
    Calls Try.prog 62 #[.pointer (some ⟨g, 0, none⟩), .pointer (some ⟨ga, 0, none⟩), .int .i64 kind] w fun e w' => ArgPost w0 w w' B g ga s0 q e := by
  have HI := Aside0.mk hI
  have HB := Aside0.mk hB
  have HO := Aside0.mk hO
  have HW := Aside0.mk hBw
  have HGA := Aside0.mk (blk_lt hO.box)
  have HG := Aside0.mk hI.lt
  clear hI hB hO hBw
  unfold argF at h
  by_cases k0 : kind = 0
  · subst k0; rw [if_pos rfl] at h
    obtain ⟨q, hq, hy⟩ := Option.bind_eq_some_iff.mp h
    simp only [Option.some.injEq] at hy
    subst hy
    have HQ := Aside0.mk hq
    clear hq
    go_enter Try.func62, Try.ntmps62
    go_wp2_with fail
    refine (say_parser_take.calls g s0 s1 s2 s3 2 _ _ _ _ w0 _ HI.out HB.out HQ.out).mono ?_
    rintro e w2 ⟨rfl, hi, hb, hk⟩
    have HO2 := HO.out.keep hk hne
    have HC := HO2.cells
    have HI := Aside0.mk hi
    have HB := Aside0.mk hb
    have HK := Aside0.mk hk
    have HO2 := Aside0.mk HO2
    obtain ⟨c1, c2, c3, c4, c5, c6, c7, c8, c9, c10, c11, f1, f2, f3, f4, f5, f6, f7, f8, f9, f10, f11⟩ := HC
    clear hi hb hk
    go_wp2_with fail
    go_end0
    exact ⟨rfl, HI.out.far (fun e => hne e.symm) _, below_set HB.out hga, keep_rowSet (keep_row HK.out _) 4 _, _, _, HO2.out.put 4 _ rfl rfl rfl⟩
  · rw [if_neg k0] at h
    by_cases k1 : kind = 1
    · subst k1; rw [if_pos rfl] at h
      obtain ⟨q, hq, hy⟩ := Option.bind_eq_some_iff.mp h
      simp only [Option.some.injEq] at hy
      subst hy
      have HQ := Aside0.mk hq
      clear hq
      clear k0
      go_enter Try.func62, Try.ntmps62
      go_wp2_with fail
      refine (say_parser_take.calls g s0 s1 s2 s3 2 _ _ _ _ w0 _ HI.out HB.out HQ.out).mono ?_
      rintro e w2 ⟨rfl, hi, hb, hk⟩
      have HO2 := HO.out.keep hk hne
      have HC := HO2.cells
      have HI := Aside0.mk hi
      have HB := Aside0.mk hb
      have HK := Aside0.mk hk
      have HO2 := Aside0.mk HO2
      obtain ⟨c1, c2, c3, c4, c5, c6, c7, c8, c9, c10, c11, f1, f2, f3, f4, f5, f6, f7, f8, f9, f10, f11⟩ := HC
      clear hi hb hk
      go_wp2_with fail
      go_end0
      exact ⟨rfl, HI.out.far (fun e => hne e.symm) _, below_set HB.out hga, keep_rowSet (keep_row HK.out _) 5 _, _, _, HO2.out.put 5 _ rfl rfl rfl⟩
    · rw [if_neg k1] at h
      by_cases k2 : kind = 2
      · subst k2; rw [if_pos rfl] at h
        obtain ⟨q, hq, hy⟩ := Option.bind_eq_some_iff.mp h
        simp only [Option.some.injEq] at hy
        subst hy
        have HQ := Aside0.mk hq
        clear hq
        clear k0 k1
        go_enter Try.func62, Try.ntmps62
        go_wp2_with fail
        refine (say_parser_names.calls k g s0 s1 s2 s3 _ _ _ _ w0 _ HI.out HB.out HQ.out).mono ?_
        rintro e w2 ⟨v, rfl, hr, hi, hb, hk⟩
        obtain ⟨Av, cv, rfl⟩ := Kd.R_slice hr
        have HR := Aside0.mk (arg_own HW.out HGA.out HG.out hr)
        clear hr
        have HO2 := HO.out.keep hk hne
        have HC := HO2.cells
        have HI := Aside0.mk hi
        have HB := Aside0.mk hb
        have HK := Aside0.mk hk
        have HO2 := Aside0.mk HO2
        obtain ⟨c1, c2, c3, c4, c5, c6, c7, c8, c9, c10, c11, f1, f2, f3, f4, f5, f6, f7, f8, f9, f10, f11⟩ := HC
        clear hi hb hk
        go_wp2_with fail
        go_end0
        exact ⟨rfl, HI.out.far (fun e => hne e.symm) _, below_set HB.out hga, keep_rowSet (keep_row HK.out _) 6 _, _, _, HO2.out.putN HR.out⟩
      · rw [if_neg k2] at h
        by_cases k3 : kind = 3
        · subst k3; rw [if_pos rfl] at h
          obtain ⟨q, hq, hy⟩ := Option.bind_eq_some_iff.mp h
          simp only [Option.some.injEq] at hy
          subst hy
          have HQ := Aside0.mk hq
          clear hq
          clear k0 k1 k2
          go_enter Try.func62, Try.ntmps62
          go_wp2_with fail
          refine (say_parser_number.calls g s0 s1 s2 s3 _ _ _ _ w0 _ HI.out HB.out HQ.out).mono ?_
          rintro e w2 ⟨rfl, hi, hb, hk⟩
          have HO2 := HO.out.keep hk hne
          have HC := HO2.cells
          have HI := Aside0.mk hi
          have HB := Aside0.mk hb
          have HK := Aside0.mk hk
          have HO2 := Aside0.mk HO2
          obtain ⟨c1, c2, c3, c4, c5, c6, c7, c8, c9, c10, c11, f1, f2, f3, f4, f5, f6, f7, f8, f9, f10, f11⟩ := HC
          clear hi hb hk
          go_wp2_with fail
          go_end0
          exact ⟨rfl, HI.out.far (fun e => hne e.symm) _, below_set HB.out hga, keep_rowSet (keep_row HK.out _) 8 _, _, _, HO2.out.put 8 _ rfl rfl rfl⟩
        · rw [if_neg k3] at h
          by_cases k4 : kind = 4
          · subst k4; rw [if_pos rfl] at h
            obtain ⟨q, hq, hy⟩ := Option.bind_eq_some_iff.mp h
            simp only [Option.some.injEq] at hy
            subst hy
            have HQ := Aside0.mk hq
            clear hq
            clear k0 k1 k2 k3
            go_enter Try.func62, Try.ntmps62
            go_wp2_with fail
            refine (say_parser_number.calls g s0 s1 s2 s3 _ _ _ _ w0 _ HI.out HB.out HQ.out).mono ?_
            rintro e w2 ⟨rfl, hi, hb, hk⟩
            have HO2 := HO.out.keep hk hne
            have HC := HO2.cells
            have HI := Aside0.mk hi
            have HB := Aside0.mk hb
            have HK := Aside0.mk hk
            have HO2 := Aside0.mk HO2
            obtain ⟨c1, c2, c3, c4, c5, c6, c7, c8, c9, c10, c11, f1, f2, f3, f4, f5, f6, f7, f8, f9, f10, f11⟩ := HC
            clear hi hb hk
            go_wp2_with fail
            go_end0
            exact ⟨rfl, HI.out.far (fun e => hne e.symm) _, below_set HB.out hga, keep_rowSet (keep_row HK.out _) 9 _, _, _, HO2.out.put 9 _ rfl rfl rfl⟩
          · rw [if_neg k4] at h
            by_cases k5 : kind = 5
            · subst k5; rw [if_pos rfl] at h
              obtain ⟨q, hq, hy⟩ := Option.bind_eq_some_iff.mp h
              simp only [Option.some.injEq] at hy
              subst hy
              have HQ := Aside0.mk hq
              clear hq
              clear k0 k1 k2 k3 k4
              go_enter Try.func62, Try.ntmps62
              go_wp2_with fail
              refine (say_parser_count.calls k g s0 s1 s2 s3 _ _ _ _ w0 _ HI.out HB.out HQ.out).mono ?_
              rintro e w2 ⟨rfl, hi, hb, hk⟩
              have HO2 := HO.out.keep hk hne
              have HC := HO2.cells
              have HI := Aside0.mk hi
              have HB := Aside0.mk hb
              have HK := Aside0.mk hk
              have HO2 := Aside0.mk HO2
              obtain ⟨c1, c2, c3, c4, c5, c6, c7, c8, c9, c10, c11, f1, f2, f3, f4, f5, f6, f7, f8, f9, f10, f11⟩ := HC
              clear hi hb hk
              go_wp2_with fail
              go_end0
              exact ⟨rfl, HI.out.far (fun e => hne e.symm) _, below_set HB.out hga, keep_rowSet (keep_row HK.out _) 10 _, _, _, HO2.out.put 10 _ rfl rfl rfl⟩
            · rw [if_neg k5] at h
              by_cases k6 : kind = 6
              · subst k6; rw [if_pos rfl] at h
                obtain ⟨q, hq, hy⟩ := Option.bind_eq_some_iff.mp h
                simp only [Option.some.injEq] at hy
                subst hy
                have HQ := Aside0.mk hq
                clear hq
                clear k0 k1 k2 k3 k4 k5
                go_enter Try.func62, Try.ntmps62
                go_wp2_with fail
                refine (say_parser_number.calls g s0 s1 s2 s3 _ _ _ _ w0 _ HI.out HB.out HQ.out).mono ?_
                rintro e w2 ⟨rfl, hi, hb, hk⟩
                have HO2 := HO.out.keep hk hne
                have HC := HO2.cells
                have HI := Aside0.mk hi
                have HB := Aside0.mk hb
                have HK := Aside0.mk hk
                have HO2 := Aside0.mk HO2
                obtain ⟨c1, c2, c3, c4, c5, c6, c7, c8, c9, c10, c11, f1, f2, f3, f4, f5, f6, f7, f8, f9, f10, f11⟩ := HC
                clear hi hb hk
                go_wp2_with fail
                go_end0
                exact ⟨rfl, HI.out.far (fun e => hne e.symm) _, below_set HB.out hga, keep_rowSet (keep_row HK.out _) 11 _, _, _, HO2.out.put 11 _ rfl rfl rfl⟩
              · rw [if_neg k6] at h
                by_cases k7 : kind = 7
                · subst k7; rw [if_pos rfl] at h
                  obtain ⟨q, hq, hy⟩ := Option.bind_eq_some_iff.mp h
                  simp only [Option.some.injEq] at hy
                  subst hy
                  have HQ := Aside0.mk hq
                  clear hq
                  clear k0 k1 k2 k3 k4 k5 k6
                  go_enter Try.func62, Try.ntmps62
                  go_wp2_with fail
                  refine (say_parser_take.calls g s0 s1 s2 s3 2 _ _ _ _ w0 _ HI.out HB.out HQ.out).mono ?_
                  rintro e w2 ⟨rfl, hi, hb, hk⟩
                  have HO2 := HO.out.keep hk hne
                  have HC := HO2.cells
                  have HI := Aside0.mk hi
                  have HB := Aside0.mk hb
                  have HK := Aside0.mk hk
                  have HO2 := Aside0.mk HO2
                  obtain ⟨c1, c2, c3, c4, c5, c6, c7, c8, c9, c10, c11, f1, f2, f3, f4, f5, f6, f7, f8, f9, f10, f11⟩ := HC
                  clear hi hb hk
                  go_wp2_with fail
                  go_end0
                  exact ⟨rfl, HI.out.far (fun e => hne e.symm) _, below_set HB.out hga, keep_rowSet (keep_row HK.out _) 7 _, _, _, HO2.out.put 7 _ rfl rfl rfl⟩
                · rw [if_neg k7] at h
                  by_cases k8 : kind = 8
                  · subst k8; rw [if_pos rfl] at h
                    obtain ⟨q, hq, hy⟩ := Option.bind_eq_some_iff.mp h
                    simp only [Option.some.injEq] at hy
                    subst hy
                    have HQ := Aside0.mk hq
                    clear hq
                    clear k0 k1 k2 k3 k4 k5 k6 k7
                    go_enter Try.func62, Try.ntmps62
                    go_wp2_with fail
                    refine (say_parser_paper.calls k g s0 s1 s2 s3 _ _ _ _ _ _ w0 _ HI.out HB.out HQ.out).mono ?_
                    rintro e w2 ⟨v, rfl, hr, hi, hb, hk⟩
                    obtain ⟨Av, cv, rfl⟩ := Kd.R_slice hr
                    have HR := Aside0.mk (arg_own HW.out HGA.out HG.out hr)
                    clear hr
                    have HO2 := HO.out.keep hk hne
                    have HC := HO2.cells
                    have HI := Aside0.mk hi
                    have HB := Aside0.mk hb
                    have HK := Aside0.mk hk
                    have HO2 := Aside0.mk HO2
                    obtain ⟨c1, c2, c3, c4, c5, c6, c7, c8, c9, c10, c11, f1, f2, f3, f4, f5, f6, f7, f8, f9, f10, f11⟩ := HC
                    clear hi hb hk
                    go_wp2_with fail
                    go_end0
                    exact ⟨rfl, ((HI.out.far (fun e => hne e.symm) _).far (fun e => hne e.symm) _).far (fun e => hne e.symm) _, below_set (below_set (below_set HB.out hga) hga) hga, keep_rowSet (keep_rowSet (keep_rowSet (keep_row HK.out _) 1 _) 2 _) 3 _, _, _, HO2.out.putP (p := ⟨q.1, q.2.1, q.2.2.1⟩) HR.out⟩
                  · rw [if_neg k8] at h; exact absurd h (by simp)

end Go.Proofs.Ytokkjnfdfbpphaa.A
namespace Go.Proofs.Ytokkjnfdfbpphaa.A
open Go.RowKit Go.Proofs.YtokkjnfdfbpphaaW.PrintWords Go.Proofs.YtokkjnfdfbpphaaW.PrintLast Go.Proofs.YtokkjnfdfbpphaaW.PrintMore
attribute [local go_sem] max2_int min2_int max_two min_two max_three min_three max_four min_four   -- for this text's walks alone
set_option linter.unusedVariables false
set_option linter.unusedSimpArgs false

/-! ### say_args: function 38 -/
mutual
def say_args.j0 : Nat → Int → Bool → Option (List Int)
  | 0, _, _ => none
  | k + 1, x3, x7 => if x7 = true then (some (([0] : List Int))) else (if x3 = 3 then (say_args.j1 k x3 (x3 == 3)) else (if x3 = 5 then (say_args.j1 k x3 (x3 == 5)) else (say_args.j1 k x3 (x3 == 6))))
def say_args.j1 : Nat → Int → Bool → Option (List Int)
  | 0, _, _ => none
  | k + 1, x3, x11 => if x11 = true then (some (([0, 1] : List Int))) else (if x3 = 8 then (some (([3] : List Int))) else (if x3 = 11 then (some (([5, 6] : List Int))) else (if x3 = 12 then (some (([3, 5, 6] : List Int))) else (if x3 = 14 then (some (([0, 2, 3] : List Int))) else (if x3 = 15 then (some (([3, 4] : List Int))) else (some ([] : List Int)))))))
end
def say_args.f (k : Nat) (a0 : Int) : Option (List Int) := if a0 = 1 then (some (([8, 7] : List Int))) else (if a0 = 2 then (say_args.j0 k a0 (a0 == 2)) else (say_args.j0 k a0 (a0 == 4)))
theorem say_args.mono_l : ∀ k, (∀ y0 y1, LeO (say_args.j0 k y0 y1) (say_args.j0 (k + 1) y0 y1)) ∧ (∀ y0 y1, LeO (say_args.j1 k y0 y1) (say_args.j1 (k + 1) y0 y1))
  | 0 => ⟨fun _ _ r h => by simp [say_args.j0] at h, fun _ _ r h => by simp [say_args.j1] at h⟩
  | k + 1 => by
    obtain ⟨ih0, ih1⟩ := say_args.mono_l k
    refine ⟨?_, ?_⟩
    · intro y0 y1
      unfold say_args.j0
      repeat' first
      | (with_reducible exact ih0 _ _)
      | (with_reducible exact ih1 _ _)
      | (with_reducible exact LeO.refl _)
      | (with_reducible exact LeO.none _)
      | (with_reducible refine LeO.ite ?_ ?_)
      | (with_reducible refine LeO.bind ?_ (fun _ => ?_))
      | exact ih0 _ _
      | exact ih1 _ _
      | exact LeO.none _
      | refine LeO.ite ?_ ?_
      | refine LeO.bind ?_ (fun _ => ?_)
    · intro y0 y1
      unfold say_args.j1
      repeat' first
      | (with_reducible exact ih0 _ _)
      | (with_reducible exact ih1 _ _)
      | (with_reducible exact LeO.refl _)
      | (with_reducible exact LeO.none _)
      | (with_reducible refine LeO.ite ?_ ?_)
      | (with_reducible refine LeO.bind ?_ (fun _ => ?_))
      | exact ih0 _ _
      | exact ih1 _ _
      | exact LeO.none _
      | refine LeO.ite ?_ ?_
      | refine LeO.bind ?_ (fun _ => ?_)
theorem say_args.mono : ∀ a0 k, LeO (say_args.f k a0) (say_args.f (k + 1) a0) := by
  intro a0 k
  obtain ⟨ih0, ih1⟩ := say_args.mono_l k
  unfold say_args.f
  repeat' first
      | (with_reducible exact ih0 _ _)
      | (with_reducible exact ih1 _ _)
      | (with_reducible exact LeO.refl _)
      | (with_reducible exact LeO.none _)
      | (with_reducible refine LeO.ite ?_ ?_)
      | (with_reducible refine LeO.bind ?_ (fun _ => ?_))
      | exact ih0 _ _
      | exact ih1 _ _
      | exact LeO.none _
      | refine LeO.ite ?_ ?_
      | refine LeO.bind ?_ (fun _ => ?_)
set_option maxHeartbeats 8000000 in
set_option maxRecDepth 100000 in
theorem say_args.calls (k : Nat) (a0 : Int) (r : List Int) (w : World) (h : say_args.f k a0 = some r) :
    Calls Try.prog 38 #[.int .i64 a0] w fun e w' => ∃ v0_ : Value, e = .returned (v0_) ∧ Kd.R (Kd.int .i64) 3 w' w.heap.size (fun _ => True) v0_ r ∧ Below w.heap.size w w' := by
  have HB := Aside0.mk (Below.refl w.heap.size w)
  have H : (if a0 = 1 then (some (([8, 7] : List Int))) else (if a0 = 2 then (say_args.j0 k a0 (a0 == 2)) else (say_args.j0 k a0 (a0 == 4)))) = some r := h
  clear h
  by_cases c2 : a0 = 1
  · rw [if_pos c2] at H
    have c2b0 : (a0 == 1) = true := beq_iff_eq.mpr c2
    have c2b1 : (a0 != 1) = false := bne_eq_false_iff_eq.mpr c2
    clear c2
    obtain ⟨y101, hy101⟩ : ∃ y_ : List Int, y_ = (([8, 7] : List Int)) := ⟨_, rfl⟩
    replace H : (some y101) = some r := by first | (rw [hy101]; with_reducible exact H) | (have H2_ := (Option.bind_some _ _).symm.trans H; rw [hy101]; with_reducible exact H2_) | (have H2_ := (Option.bind_some _ _).symm.trans H; with_reducible exact H2_) | with_reducible exact H | (rw [hy101]; exact H) | exact H
    have Ny101 := Aside0.mk hy101
    clear hy101
    obtain rfl := Option.some.inj H
    go_enter Try.func38, Try.ntmps38
    go_wp2_with (first | ((with_reducible refine gate_dst (N := 6) rfl ?_); refine Kd.R_lit (Kd.int .i64) _ 3 ?hg (N := 6) ?hd (xs := ([8, 7] : List Int)) (inner := [.int .i64 8, .int .i64 7]) (ok := fun _ => True) (okp := fun _ => True) ?hr ?hp (fun _ hk => hk) trivial (Below.refl _ _) (Nat.le_refl _) (by simp) ?_; (case hd => rfl); (case hg => rfl); (case hr => first | (go_simp; done) | (go_simp; rfl)); (case hp => exact (Reps.one (show Kd.M (Kd.int .i64) _ _ _ 8 [.int .i64 8] from rfl) (Reps.one (show Kd.M (Kd.int .i64) _ _ _ 7 [.int .i64 7] from rfl) (Reps.none _ _)))); intro v102 w3 ho4 hb hg_ hnew_; clear hg_ hnew_; (first | rw [← Ny101.out] at ho4 | (simp only [Int.reduceToNat] at ho4; rw [← Ny101.out] at ho4)); have n0_ := Aside0.mk (Kd.R_lower ho4 (below_size (by repeat (first | (with_reducible first | exact HB.out | apply below_alloc | apply pw_below_drewN | apply below_drew1) | exact HB.out)))); have n1_ := Aside0.mk (below_step (by repeat (first | (with_reducible first | exact HB.out | apply below_alloc | apply pw_below_drewN | apply below_drew1) | exact HB.out)) hb); clear HB; have HO103 := n0_; have HB := n1_; clear n0_ n1_; clear hb ho4))
    go_ret
    exact ⟨_, by first | rfl | (simp [errW_none, errW_some] <;> rfl) | (simp [*, errW_none, errW_some] <;> rfl), by (with_reducible repeat (first | apply Kd.R_alloc | apply Kd.R_drewN | apply Kd.R_drew)); exact HO103.out, by repeat (first | (with_reducible first | exact HB.out | apply below_alloc | apply pw_below_drewN | apply below_drew1) | exact HB.out)⟩
  · rw [if_neg c2] at H
    have c2b0 : (a0 == 1) = false := beq_eq_false_iff_ne.mpr c2
    have c2b1 : (a0 != 1) = true := bne_iff_ne.mpr c2
    have HC5 := Aside0.mk H
    clear H
    go_enter Try.func38, Try.ntmps38
    go_upto_if 7 with (fail)
    go_cut [7] (fun v7 wc => ∃ (kq : Nat) (x7_4 : Bool), v7 = .bool x7_4 ∧ Aside0 (say_args.j0 kq a0 x7_4 = some r) ∧ Aside0 (kq ≤ k) ∧ Aside0 (Below w.heap.size w wc))
    case first =>
      have H := HC5.out
      clear HC5
      by_cases c6 : a0 = 2
      · rw [if_pos c6] at H
        have c6b0 : (a0 == 2) = true := beq_iff_eq.mpr c6
        have c6b1 : (a0 != 2) = false := bne_eq_false_iff_eq.mpr c6
        clear c6
        (first | rw [c6b0] | (simp only [i64_w, i32_w]; rw [c6b0]) | skip)
        have H' := Aside0.mk H
        clear H
        go_wp2
        go_meet
        case rel => exact ⟨_, ((a0 == 2)), (by first | rfl | (simp; done) | (simp [*]; done)), H', ⟨by first | omega | exact Nat.le_refl _⟩, ⟨by repeat (first | (with_reducible first | exact HB.out | apply below_alloc | apply pw_below_drewN | apply below_drew1) | exact HB.out)⟩⟩
      · rw [if_neg c6] at H
        have c6b0 : (a0 == 2) = false := beq_eq_false_iff_ne.mpr c6
        have c6b1 : (a0 != 2) = true := bne_iff_ne.mpr c6
        (first | rw [c6b0] | (simp only [i64_w, i32_w]; rw [c6b0]) | skip)
        have H' := Aside0.mk H
        clear H
        go_wp2
        go_meet
        case rel => exact ⟨_, ((a0 == 4)), (by first | rfl | (simp; done) | (simp [*]; done)), H', ⟨by first | omega | exact Nat.le_refl _⟩, ⟨by repeat (first | (with_reducible first | exact HB.out | apply below_alloc | apply pw_below_drewN | apply below_drew1) | exact HB.out)⟩⟩
    case rest =>
      clear HC5
      try clear c2
      try clear c2b0
      try clear c2b1
      try clear p2
      try clear c3
      try clear c6
      try clear c6b0
      try clear c6b1
      obtain ⟨kq, x7_4, rfl, HA, HJ4, HB⟩ := hcut
      cases kq with
      | zero => exact absurd HA.out (by simp [say_args.j0])
      | succ kj4 =>
        have H := HA.out
        clear HA
        simp only [say_args.j0] at H
        by_cases c7 : x7_4 = true
        · subst c7
          have H1 : (some (([0] : List Int))) = some r := by rw [if_pos rfl] at H; exact H
          clear H
          have H := H1
          clear H1
          obtain ⟨y104, hy104⟩ : ∃ y_ : List Int, y_ = (([0] : List Int)) := ⟨_, rfl⟩
          replace H : (some y104) = some r := by first | (rw [hy104]; with_reducible exact H) | (have H2_ := (Option.bind_some _ _).symm.trans H; rw [hy104]; with_reducible exact H2_) | (have H2_ := (Option.bind_some _ _).symm.trans H; with_reducible exact H2_) | with_reducible exact H | (rw [hy104]; exact H) | exact H
          have Ny104 := Aside0.mk hy104
          clear hy104
          obtain rfl := Option.some.inj H
          go_wp2_with (first | ((with_reducible refine gate_dst (N := 10) rfl ?_); refine Kd.R_lit (Kd.int .i64) _ 3 ?hg (N := 10) ?hd (xs := ([0] : List Int)) (inner := [.int .i64 0]) (ok := fun _ => True) (okp := fun _ => True) ?hr ?hp (fun _ hk => hk) trivial (Below.refl _ _) (Nat.le_refl _) (by simp) ?_; (case hd => rfl); (case hg => rfl); (case hr => first | (go_simp; done) | (go_simp; rfl)); (case hp => exact (Reps.one (show Kd.M (Kd.int .i64) _ _ _ 0 [.int .i64 0] from rfl) (Reps.none _ _))); intro v105 w8 ho9 hb hg_ hnew_; clear hg_ hnew_; (first | rw [← Ny104.out] at ho9 | (simp only [Int.reduceToNat] at ho9; rw [← Ny104.out] at ho9)); have n0_ := Aside0.mk (Kd.R_lower ho9 (below_size (by repeat (first | (with_reducible first | exact HB.out | apply below_alloc | apply pw_below_drewN | apply below_drew1) | exact HB.out)))); have n1_ := Aside0.mk (below_step (by repeat (first | (with_reducible first | exact HB.out | apply below_alloc | apply pw_below_drewN | apply below_drew1) | exact HB.out)) hb); clear HB; have HO106 := n0_; have HB := n1_; clear n0_ n1_; clear hb ho9))
          go_ret
          exact ⟨_, by first | rfl | (simp [errW_none, errW_some] <;> rfl) | (simp [*, errW_none, errW_some] <;> rfl), by (with_reducible repeat (first | apply Kd.R_alloc | apply Kd.R_drewN | apply Kd.R_drew)); exact HO106.out, by repeat (first | (with_reducible first | exact HB.out | apply below_alloc | apply pw_below_drewN | apply below_drew1) | exact HB.out)⟩
        · replace c7 := Bool.eq_false_iff.mpr c7
          subst c7
          have H1 : (if a0 = 3 then (say_args.j1 kj4 a0 (a0 == 3)) else (if a0 = 5 then (say_args.j1 kj4 a0 (a0 == 5)) else (say_args.j1 kj4 a0 (a0 == 6)))) = some r := by rw [if_neg (show ¬ (false = true) by decide)] at H; exact H
          clear H
          have H := H1
          clear H1
          have HC10 := Aside0.mk H
          clear H
          go_upto_if 11 with (fail)
          go_cut [11] (fun v11 wc => ∃ (kq : Nat) (x11_9 : Bool), v11 = .bool x11_9 ∧ Aside0 (say_args.j1 kq a0 x11_9 = some r) ∧ Aside0 (kq ≤ kj4) ∧ Aside0 (Below w.heap.size w wc))
          case first =>
            have H := HC10.out
            clear HC10
            by_cases c11 : a0 = 3
            · rw [if_pos c11] at H
              have c11b0 : (a0 == 3) = true := beq_iff_eq.mpr c11
              have c11b1 : (a0 != 3) = false := bne_eq_false_iff_eq.mpr c11
              clear c11
              (first | rw [c11b0] | (simp only [i64_w, i32_w]; rw [c11b0]) | skip)
              have H' := Aside0.mk H
              clear H
              go_wp2
              go_meet
              case rel => exact ⟨_, ((a0 == 3)), (by first | rfl | (simp; done) | (simp [*]; done)), H', ⟨by have := HJ4.out; first | omega | exact Nat.le_refl _⟩, ⟨by repeat (first | (with_reducible first | exact HB.out | apply below_alloc | apply pw_below_drewN | apply below_drew1) | exact HB.out)⟩⟩
            · rw [if_neg c11] at H
              have c11b0 : (a0 == 3) = false := beq_eq_false_iff_ne.mpr c11
              have c11b1 : (a0 != 3) = true := bne_iff_ne.mpr c11
              (first | rw [c11b0] | (simp only [i64_w, i32_w]; rw [c11b0]) | skip)
              by_cases c12 : a0 = 5
              · rw [if_pos c12] at H
                have c12b0 : (a0 == 5) = true := beq_iff_eq.mpr c12
                have c12b1 : (a0 != 5) = false := bne_eq_false_iff_eq.mpr c12
                clear c12
                have H' := Aside0.mk H
                clear H
                go_wp2
                go_meet
                case rel => exact ⟨_, ((a0 == 5)), (by first | rfl | (simp; done) | (simp [*]; done)), H', ⟨by have := HJ4.out; first | omega | exact Nat.le_refl _⟩, ⟨by repeat (first | (with_reducible first | exact HB.out | apply below_alloc | apply pw_below_drewN | apply below_drew1) | exact HB.out)⟩⟩
              · rw [if_neg c12] at H
                have c12b0 : (a0 == 5) = false := beq_eq_false_iff_ne.mpr c12
                have c12b1 : (a0 != 5) = true := bne_iff_ne.mpr c12
                have H' := Aside0.mk H
                clear H
                go_wp2
                go_meet
                case rel => exact ⟨_, ((a0 == 6)), (by first | rfl | (simp; done) | (simp [*]; done)), H', ⟨by have := HJ4.out; first | omega | exact Nat.le_refl _⟩, ⟨by repeat (first | (with_reducible first | exact HB.out | apply below_alloc | apply pw_below_drewN | apply below_drew1) | exact HB.out)⟩⟩
          case rest =>
            clear HC10
            try clear c1
            try clear c2
            try clear c2b0
            try clear c2b1
            try clear p2
            try clear c3
            try clear c6
            try clear c6b0
            try clear c6b1
            try clear c7
            try clear c11
            try clear c11b0
            try clear c11b1
            try clear c12
            try clear c12b0
            try clear c12b1
            try clear p2
            obtain ⟨kq, x11_9, rfl, HA, HJ9, HB⟩ := hcut
            cases kq with
            | zero => exact absurd HA.out (by simp [say_args.j1])
            | succ kj9 =>
              have H := HA.out
              clear HA
              simp only [say_args.j1] at H
              by_cases c13 : x11_9 = true
              · subst c13
                have H1 : (some (([0, 1] : List Int))) = some r := by rw [if_pos rfl] at H; exact H
                clear H
                have H := H1
                clear H1
                obtain ⟨y107, hy107⟩ : ∃ y_ : List Int, y_ = (([0, 1] : List Int)) := ⟨_, rfl⟩
                replace H : (some y107) = some r := by first | (rw [hy107]; with_reducible exact H) | (have H2_ := (Option.bind_some _ _).symm.trans H; rw [hy107]; with_reducible exact H2_) | (have H2_ := (Option.bind_some _ _).symm.trans H; with_reducible exact H2_) | with_reducible exact H | (rw [hy107]; exact H) | exact H
                have Ny107 := Aside0.mk hy107
                clear hy107
                obtain rfl := Option.some.inj H
                go_wp2_with (first | ((with_reducible refine gate_dst (N := 15) rfl ?_); refine Kd.R_lit (Kd.int .i64) _ 3 ?hg (N := 15) ?hd (xs := ([0, 1] : List Int)) (inner := [.int .i64 0, .int .i64 1]) (ok := fun _ => True) (okp := fun _ => True) ?hr ?hp (fun _ hk => hk) trivial (Below.refl _ _) (Nat.le_refl _) (by simp) ?_; (case hd => rfl); (case hg => rfl); (case hr => first | (go_simp; done) | (go_simp; rfl)); (case hp => exact (Reps.one (show Kd.M (Kd.int .i64) _ _ _ 0 [.int .i64 0] from rfl) (Reps.one (show Kd.M (Kd.int .i64) _ _ _ 1 [.int .i64 1] from rfl) (Reps.none _ _)))); intro v108 w14 ho15 hb hg_ hnew_; clear hg_ hnew_; (first | rw [← Ny107.out] at ho15 | (simp only [Int.reduceToNat] at ho15; rw [← Ny107.out] at ho15)); have n0_ := Aside0.mk (Kd.R_lower ho15 (below_size (by repeat (first | (with_reducible first | exact HB.out | apply below_alloc | apply pw_below_drewN | apply below_drew1) | exact HB.out)))); have n1_ := Aside0.mk (below_step (by repeat (first | (with_reducible first | exact HB.out | apply below_alloc | apply pw_below_drewN | apply below_drew1) | exact HB.out)) hb); clear HB; have HO109 := n0_; have HB := n1_; clear n0_ n1_; clear hb ho15))
                go_ret
                exact ⟨_, by first | rfl | (simp [errW_none, errW_some] <;> rfl) | (simp [*, errW_none, errW_some] <;> rfl), by (with_reducible repeat (first | apply Kd.R_alloc | apply Kd.R_drewN | apply Kd.R_drew)); exact HO109.out, by repeat (first | (with_reducible first | exact HB.out | apply below_alloc | apply pw_below_drewN | apply below_drew1) | exact HB.out)⟩
              · replace c13 := Bool.eq_false_iff.mpr c13
                subst c13
                have H1 : (if a0 = 8 then (some (([3] : List Int))) else (if a0 = 11 then (some (([5, 6] : List Int))) else (if a0 = 12 then (some (([3, 5, 6] : List Int))) else (if a0 = 14 then (some (([0, 2, 3] : List Int))) else (if a0 = 15 then (some (([3, 4] : List Int))) else (some ([] : List Int))))))) = some r := by rw [if_neg (show ¬ (false = true) by decide)] at H; exact H
                clear H
                have H := H1
                clear H1
                by_cases c16 : a0 = 8
                · rw [if_pos c16] at H
                  have c16b0 : (a0 == 8) = true := beq_iff_eq.mpr c16
                  have c16b1 : (a0 != 8) = false := bne_eq_false_iff_eq.mpr c16
                  clear c16
                  obtain ⟨y110, hy110⟩ : ∃ y_ : List Int, y_ = (([3] : List Int)) := ⟨_, rfl⟩
                  replace H : (some y110) = some r := by first | (rw [hy110]; with_reducible exact H) | (have H2_ := (Option.bind_some _ _).symm.trans H; rw [hy110]; with_reducible exact H2_) | (have H2_ := (Option.bind_some _ _).symm.trans H; with_reducible exact H2_) | with_reducible exact H | (rw [hy110]; exact H) | exact H
                  have Ny110 := Aside0.mk hy110
                  clear hy110
                  obtain rfl := Option.some.inj H
                  go_wp2_with (first | ((with_reducible refine gate_dst (N := 18) rfl ?_); refine Kd.R_lit (Kd.int .i64) _ 3 ?hg (N := 18) ?hd (xs := ([3] : List Int)) (inner := [.int .i64 3]) (ok := fun _ => True) (okp := fun _ => True) ?hr ?hp (fun _ hk => hk) trivial (Below.refl _ _) (Nat.le_refl _) (by simp) ?_; (case hd => rfl); (case hg => rfl); (case hr => first | (go_simp; done) | (go_simp; rfl)); (case hp => exact (Reps.one (show Kd.M (Kd.int .i64) _ _ _ 3 [.int .i64 3] from rfl) (Reps.none _ _))); intro v111 w17 ho18 hb hg_ hnew_; clear hg_ hnew_; (first | rw [← Ny110.out] at ho18 | (simp only [Int.reduceToNat] at ho18; rw [← Ny110.out] at ho18)); have n0_ := Aside0.mk (Kd.R_lower ho18 (below_size (by repeat (first | (with_reducible first | exact HB.out | apply below_alloc | apply pw_below_drewN | apply below_drew1) | exact HB.out)))); have n1_ := Aside0.mk (below_step (by repeat (first | (with_reducible first | exact HB.out | apply below_alloc | apply pw_below_drewN | apply below_drew1) | exact HB.out)) hb); clear HB; have HO112 := n0_; have HB := n1_; clear n0_ n1_; clear hb ho18))
                  go_ret
                  exact ⟨_, by first | rfl | (simp [errW_none, errW_some] <;> rfl) | (simp [*, errW_none, errW_some] <;> rfl), by (with_reducible repeat (first | apply Kd.R_alloc | apply Kd.R_drewN | apply Kd.R_drew)); exact HO112.out, by repeat (first | (with_reducible first | exact HB.out | apply below_alloc | apply pw_below_drewN | apply below_drew1) | exact HB.out)⟩
                · rw [if_neg c16] at H
                  have c16b0 : (a0 == 8) = false := beq_eq_false_iff_ne.mpr c16
                  have c16b1 : (a0 != 8) = true := bne_iff_ne.mpr c16
                  by_cases c19 : a0 = 11
                  · rw [if_pos c19] at H
                    have c19b0 : (a0 == 11) = true := beq_iff_eq.mpr c19
                    have c19b1 : (a0 != 11) = false := bne_eq_false_iff_eq.mpr c19
                    clear c19
                    obtain ⟨y113, hy113⟩ : ∃ y_ : List Int, y_ = (([5, 6] : List Int)) := ⟨_, rfl⟩
                    replace H : (some y113) = some r := by first | (rw [hy113]; with_reducible exact H) | (have H2_ := (Option.bind_some _ _).symm.trans H; rw [hy113]; with_reducible exact H2_) | (have H2_ := (Option.bind_some _ _).symm.trans H; with_reducible exact H2_) | with_reducible exact H | (rw [hy113]; exact H) | exact H
                    have Ny113 := Aside0.mk hy113
                    clear hy113
                    obtain rfl := Option.some.inj H
                    go_wp2_with (first | ((with_reducible refine gate_dst (N := 21) rfl ?_); refine Kd.R_lit (Kd.int .i64) _ 3 ?hg (N := 21) ?hd (xs := ([5, 6] : List Int)) (inner := [.int .i64 5, .int .i64 6]) (ok := fun _ => True) (okp := fun _ => True) ?hr ?hp (fun _ hk => hk) trivial (Below.refl _ _) (Nat.le_refl _) (by simp) ?_; (case hd => rfl); (case hg => rfl); (case hr => first | (go_simp; done) | (go_simp; rfl)); (case hp => exact (Reps.one (show Kd.M (Kd.int .i64) _ _ _ 5 [.int .i64 5] from rfl) (Reps.one (show Kd.M (Kd.int .i64) _ _ _ 6 [.int .i64 6] from rfl) (Reps.none _ _)))); intro v114 w20 ho21 hb hg_ hnew_; clear hg_ hnew_; (first | rw [← Ny113.out] at ho21 | (simp only [Int.reduceToNat] at ho21; rw [← Ny113.out] at ho21)); have n0_ := Aside0.mk (Kd.R_lower ho21 (below_size (by repeat (first | (with_reducible first | exact HB.out | apply below_alloc | apply pw_below_drewN | apply below_drew1) | exact HB.out)))); have n1_ := Aside0.mk (below_step (by repeat (first | (with_reducible first | exact HB.out | apply below_alloc | apply pw_below_drewN | apply below_drew1) | exact HB.out)) hb); clear HB; have HO115 := n0_; have HB := n1_; clear n0_ n1_; clear hb ho21))
                    go_ret
                    exact ⟨_, by first | rfl | (simp [errW_none, errW_some] <;> rfl) | (simp [*, errW_none, errW_some] <;> rfl), by (with_reducible repeat (first | apply Kd.R_alloc | apply Kd.R_drewN | apply Kd.R_drew)); exact HO115.out, by repeat (first | (with_reducible first | exact HB.out | apply below_alloc | apply pw_below_drewN | apply below_drew1) | exact HB.out)⟩
                  · rw [if_neg c19] at H
                    have c19b0 : (a0 == 11) = false := beq_eq_false_iff_ne.mpr c19
                    have c19b1 : (a0 != 11) = true := bne_iff_ne.mpr c19
                    by_cases c22 : a0 = 12
                    · rw [if_pos c22] at H
                      have c22b0 : (a0 == 12) = true := beq_iff_eq.mpr c22
                      have c22b1 : (a0 != 12) = false := bne_eq_false_iff_eq.mpr c22
                      clear c22
                      obtain ⟨y116, hy116⟩ : ∃ y_ : List Int, y_ = (([3, 5, 6] : List Int)) := ⟨_, rfl⟩
                      replace H : (some y116) = some r := by first | (rw [hy116]; with_reducible exact H) | (have H2_ := (Option.bind_some _ _).symm.trans H; rw [hy116]; with_reducible exact H2_) | (have H2_ := (Option.bind_some _ _).symm.trans H; with_reducible exact H2_) | with_reducible exact H | (rw [hy116]; exact H) | exact H
                      have Ny116 := Aside0.mk hy116
                      clear hy116
                      obtain rfl := Option.some.inj H
                      go_wp2_with (first | ((with_reducible refine gate_dst (N := 24) rfl ?_); refine Kd.R_lit (Kd.int .i64) _ 3 ?hg (N := 24) ?hd (xs := ([3, 5, 6] : List Int)) (inner := [.int .i64 3, .int .i64 5, .int .i64 6]) (ok := fun _ => True) (okp := fun _ => True) ?hr ?hp (fun _ hk => hk) trivial (Below.refl _ _) (Nat.le_refl _) (by simp) ?_; (case hd => rfl); (case hg => rfl); (case hr => first | (go_simp; done) | (go_simp; rfl)); (case hp => exact (Reps.one (show Kd.M (Kd.int .i64) _ _ _ 3 [.int .i64 3] from rfl) (Reps.one (show Kd.M (Kd.int .i64) _ _ _ 5 [.int .i64 5] from rfl) (Reps.one (show Kd.M (Kd.int .i64) _ _ _ 6 [.int .i64 6] from rfl) (Reps.none _ _))))); intro v117 w23 ho24 hb hg_ hnew_; clear hg_ hnew_; (first | rw [← Ny116.out] at ho24 | (simp only [Int.reduceToNat] at ho24; rw [← Ny116.out] at ho24)); have n0_ := Aside0.mk (Kd.R_lower ho24 (below_size (by repeat (first | (with_reducible first | exact HB.out | apply below_alloc | apply pw_below_drewN | apply below_drew1) | exact HB.out)))); have n1_ := Aside0.mk (below_step (by repeat (first | (with_reducible first | exact HB.out | apply below_alloc | apply pw_below_drewN | apply below_drew1) | exact HB.out)) hb); clear HB; have HO118 := n0_; have HB := n1_; clear n0_ n1_; clear hb ho24))
                      go_ret
                      exact ⟨_, by first | rfl | (simp [errW_none, errW_some] <;> rfl) | (simp [*, errW_none, errW_some] <;> rfl), by (with_reducible repeat (first | apply Kd.R_alloc | apply Kd.R_drewN | apply Kd.R_drew)); exact HO118.out, by repeat (first | (with_reducible first | exact HB.out | apply below_alloc | apply pw_below_drewN | apply below_drew1) | exact HB.out)⟩
                    · rw [if_neg c22] at H
                      have c22b0 : (a0 == 12) = false := beq_eq_false_iff_ne.mpr c22
                      have c22b1 : (a0 != 12) = true := bne_iff_ne.mpr c22
                      by_cases c25 : a0 = 14
                      · rw [if_pos c25] at H
                        have c25b0 : (a0 == 14) = true := beq_iff_eq.mpr c25
                        have c25b1 : (a0 != 14) = false := bne_eq_false_iff_eq.mpr c25
                        clear c25
                        obtain ⟨y119, hy119⟩ : ∃ y_ : List Int, y_ = (([0, 2, 3] : List Int)) := ⟨_, rfl⟩
                        replace H : (some y119) = some r := by first | (rw [hy119]; with_reducible exact H) | (have H2_ := (Option.bind_some _ _).symm.trans H; rw [hy119]; with_reducible exact H2_) | (have H2_ := (Option.bind_some _ _).symm.trans H; with_reducible exact H2_) | with_reducible exact H | (rw [hy119]; exact H) | exact H
                        have Ny119 := Aside0.mk hy119
                        clear hy119
                        obtain rfl := Option.some.inj H
                        go_wp2_with (first | ((with_reducible refine gate_dst (N := 27) rfl ?_); refine Kd.R_lit (Kd.int .i64) _ 3 ?hg (N := 27) ?hd (xs := ([0, 2, 3] : List Int)) (inner := [.int .i64 0, .int .i64 2, .int .i64 3]) (ok := fun _ => True) (okp := fun _ => True) ?hr ?hp (fun _ hk => hk) trivial (Below.refl _ _) (Nat.le_refl _) (by simp) ?_; (case hd => rfl); (case hg => rfl); (case hr => first | (go_simp; done) | (go_simp; rfl)); (case hp => exact (Reps.one (show Kd.M (Kd.int .i64) _ _ _ 0 [.int .i64 0] from rfl) (Reps.one (show Kd.M (Kd.int .i64) _ _ _ 2 [.int .i64 2] from rfl) (Reps.one (show Kd.M (Kd.int .i64) _ _ _ 3 [.int .i64 3] from rfl) (Reps.none _ _))))); intro v120 w26 ho27 hb hg_ hnew_; clear hg_ hnew_; (first | rw [← Ny119.out] at ho27 | (simp only [Int.reduceToNat] at ho27; rw [← Ny119.out] at ho27)); have n0_ := Aside0.mk (Kd.R_lower ho27 (below_size (by repeat (first | (with_reducible first | exact HB.out | apply below_alloc | apply pw_below_drewN | apply below_drew1) | exact HB.out)))); have n1_ := Aside0.mk (below_step (by repeat (first | (with_reducible first | exact HB.out | apply below_alloc | apply pw_below_drewN | apply below_drew1) | exact HB.out)) hb); clear HB; have HO121 := n0_; have HB := n1_; clear n0_ n1_; clear hb ho27))
                        go_ret
                        exact ⟨_, by first | rfl | (simp [errW_none, errW_some] <;> rfl) | (simp [*, errW_none, errW_some] <;> rfl), by (with_reducible repeat (first | apply Kd.R_alloc | apply Kd.R_drewN | apply Kd.R_drew)); exact HO121.out, by repeat (first | (with_reducible first | exact HB.out | apply below_alloc | apply pw_below_drewN | apply below_drew1) | exact HB.out)⟩
                      · rw [if_neg c25] at H
                        have c25b0 : (a0 == 14) = false := beq_eq_false_iff_ne.mpr c25
                        have c25b1 : (a0 != 14) = true := bne_iff_ne.mpr c25
                        by_cases c28 : a0 = 15
                        · rw [if_pos c28] at H
                          have c28b0 : (a0 == 15) = true := beq_iff_eq.mpr c28
                          have c28b1 : (a0 != 15) = false := bne_eq_false_iff_eq.mpr c28
                          clear c28
                          obtain ⟨y122, hy122⟩ : ∃ y_ : List Int, y_ = (([3, 4] : List Int)) := ⟨_, rfl⟩
                          replace H : (some y122) = some r := by first | (rw [hy122]; with_reducible exact H) | (have H2_ := (Option.bind_some _ _).symm.trans H; rw [hy122]; with_reducible exact H2_) | (have H2_ := (Option.bind_some _ _).symm.trans H; with_reducible exact H2_) | with_reducible exact H | (rw [hy122]; exact H) | exact H
                          have Ny122 := Aside0.mk hy122
                          clear hy122
                          obtain rfl := Option.some.inj H
                          go_wp2_with (first | ((with_reducible refine gate_dst (N := 30) rfl ?_); refine Kd.R_lit (Kd.int .i64) _ 3 ?hg (N := 30) ?hd (xs := ([3, 4] : List Int)) (inner := [.int .i64 3, .int .i64 4]) (ok := fun _ => True) (okp := fun _ => True) ?hr ?hp (fun _ hk => hk) trivial (Below.refl _ _) (Nat.le_refl _) (by simp) ?_; (case hd => rfl); (case hg => rfl); (case hr => first | (go_simp; done) | (go_simp; rfl)); (case hp => exact (Reps.one (show Kd.M (Kd.int .i64) _ _ _ 3 [.int .i64 3] from rfl) (Reps.one (show Kd.M (Kd.int .i64) _ _ _ 4 [.int .i64 4] from rfl) (Reps.none _ _)))); intro v123 w29 ho30 hb hg_ hnew_; clear hg_ hnew_; (first | rw [← Ny122.out] at ho30 | (simp only [Int.reduceToNat] at ho30; rw [← Ny122.out] at ho30)); have n0_ := Aside0.mk (Kd.R_lower ho30 (below_size (by repeat (first | (with_reducible first | exact HB.out | apply below_alloc | apply pw_below_drewN | apply below_drew1) | exact HB.out)))); have n1_ := Aside0.mk (below_step (by repeat (first | (with_reducible first | exact HB.out | apply below_alloc | apply pw_below_drewN | apply below_drew1) | exact HB.out)) hb); clear HB; have HO124 := n0_; have HB := n1_; clear n0_ n1_; clear hb ho30))
                          go_ret
                          exact ⟨_, by first | rfl | (simp [errW_none, errW_some] <;> rfl) | (simp [*, errW_none, errW_some] <;> rfl), by (with_reducible repeat (first | apply Kd.R_alloc | apply Kd.R_drewN | apply Kd.R_drew)); exact HO124.out, by repeat (first | (with_reducible first | exact HB.out | apply below_alloc | apply pw_below_drewN | apply below_drew1) | exact HB.out)⟩
                        · rw [if_neg c28] at H
                          have c28b0 : (a0 == 15) = false := beq_eq_false_iff_ne.mpr c28
                          have c28b1 : (a0 != 15) = true := bne_iff_ne.mpr c28
                          obtain rfl := Option.some.inj H
                          go_wp2
                          go_ret
                          exact ⟨_, by first | rfl | (simp [errW_none, errW_some] <;> rfl) | (simp [*, errW_none, errW_some] <;> rfl), by first | exact Kd.R_nil _ _ _ _ _ | exact Kd.N_nil _ _ _ _ _ | exact Kd.V_nil _ _ _ _ _ | exact Kd.Q_nil _ _ _ _ _ | exact Kd.S_nil _ _ _ _ _, by repeat (first | (with_reducible first | exact HB.out | apply below_alloc | apply pw_below_drewN | apply below_drew1) | exact HB.out)⟩

end Go.Proofs.Ytokkjnfdfbpphaa.A
namespace Go.Proofs.Ytokkjnfdfbpphaa.A
open Go.RowKit Go.Proofs.YtokkjnfdfbpphaaW.PrintWords Go.Proofs.YtokkjnfdfbpphaaW.PrintLast Go.Proofs.YtokkjnfdfbpphaaW.PrintMore
attribute [local go_sem] max2_int min2_int max_two min_two max_three min_three max_four min_four   -- for this text's walks alone
set_option linter.unusedVariables false
set_option linter.unusedSimpArgs false

def zero45 : Array Value := #[.int .i64 0, .string ⟨#[]⟩, .int .i64 0, .slice none 0 0, .string ⟨#[]⟩, .string ⟨#[]⟩, .slice none 0 0, .string ⟨#[]⟩, .int .i64 0, .int .i64 0, .int .u64 0, .int .i64 0]
/-- Twelve cells of a block are written. -/
def put12 (w : World) (b : Nat) (c0 c1 c2 c3 c4 c5 c6 c7 c8 c9 c10 c11 : Value) : World :=
  (((((((((((w.setCell ⟨b, 0, none⟩ c0).setCell ⟨b, 1, none⟩ c1).setCell ⟨b, 2, none⟩ c2).setCell ⟨b, 3, none⟩ c3).setCell ⟨b, 4, none⟩ c4).setCell ⟨b, 5, none⟩ c5).setCell ⟨b, 6, none⟩ c6).setCell ⟨b, 7, none⟩ c7).setCell ⟨b, 8, none⟩ c8).setCell ⟨b, 9, none⟩ c9).setCell ⟨b, 10, none⟩ c10).setCell ⟨b, 11, none⟩ c11
theorem put12_other (w : World) (b : Nat) (c0 c1 c2 c3 c4 c5 c6 c7 c8 c9 c10 c11 : Value) (k : Nat) (hk : k ≠ b) : (put12 w b c0 c1 c2 c3 c4 c5 c6 c7 c8 c9 c10 c11).heap[k]? = w.heap[k]? := by
  unfold put12
  repeat rw [Below.heap_setCell _ _ _ k (by simpa using hk)]
theorem Fr.twelve {w0 w wc : World} {g : Nat} {s0 : List S28} {s1 s2 s3 : Int} {gb : Nat} {a0 a1 a2 a3 a4 a5 a6 a7 a8 a9 a10 a11 : Value} {T : TypeId} (h : Fr w0 w wc g s0 s1 s2 s3 gb #[a0, a1, a2, a3, a4, a5, a6, a7, a8, a9, a10, a11] T)
    (c0 c1 c2 c3 c4 c5 c6 c7 c8 c9 c10 c11 : Value) : Fr w0 w (put12 wc gb c0 c1 c2 c3 c4 c5 c6 c7 c8 c9 c10 c11) g s0 s1 s2 s3 gb #[c0, c1, c2, c3, c4, c5, c6, c7, c8, c9, c10, c11] T :=
  have h0 := Fr.put h 0 c0 (cs2 := #[c0, a1, a2, a3, a4, a5, a6, a7, a8, a9, a10, a11]) rfl
  have h1 := Fr.put h0 1 c1 (cs2 := #[c0, c1, a2, a3, a4, a5, a6, a7, a8, a9, a10, a11]) rfl
  have h2 := Fr.put h1 2 c2 (cs2 := #[c0, c1, c2, a3, a4, a5, a6, a7, a8, a9, a10, a11]) rfl
  have h3 := Fr.put h2 3 c3 (cs2 := #[c0, c1, c2, c3, a4, a5, a6, a7, a8, a9, a10, a11]) rfl
  have h4 := Fr.put h3 4 c4 (cs2 := #[c0, c1, c2, c3, c4, a5, a6, a7, a8, a9, a10, a11]) rfl
  have h5 := Fr.put h4 5 c5 (cs2 := #[c0, c1, c2, c3, c4, c5, a6, a7, a8, a9, a10, a11]) rfl
  have h6 := Fr.put h5 6 c6 (cs2 := #[c0, c1, c2, c3, c4, c5, c6, a7, a8, a9, a10, a11]) rfl
  have h7 := Fr.put h6 7 c7 (cs2 := #[c0, c1, c2, c3, c4, c5, c6, c7, a8, a9, a10, a11]) rfl
  have h8 := Fr.put h7 8 c8 (cs2 := #[c0, c1, c2, c3, c4, c5, c6, c7, c8, a9, a10, a11]) rfl
  have h9 := Fr.put h8 9 c9 (cs2 := #[c0, c1, c2, c3, c4, c5, c6, c7, c8, c9, a10, a11]) rfl
  have h10 := Fr.put h9 10 c10 (cs2 := #[c0, c1, c2, c3, c4, c5, c6, c7, c8, c9, c10, a11]) rfl
  have h11 := Fr.put h10 11 c11 (cs2 := #[c0, c1, c2, c3, c4, c5, c6, c7, c8, c9, c10, c11]) rfl
  h11
theorem val12 {w : World} {b : Nat} {a0 a1 a2 a3 a4 a5 a6 a7 a8 a9 a10 a11 : Value} {T : TypeId} (h : w.heap[b]? = some (.cells #[a0, a1, a2, a3, a4, a5, a6, a7, a8, a9, a10, a11] T (0, 0))) :
    w.cell? ⟨b, 0, none⟩ = some a0 ∧ w.cell? ⟨b, 1, none⟩ = some a1 ∧ w.cell? ⟨b, 2, none⟩ = some a2 ∧ w.cell? ⟨b, 3, none⟩ = some a3 ∧ w.cell? ⟨b, 4, none⟩ = some a4 ∧ w.cell? ⟨b, 5, none⟩ = some a5 ∧
    w.cell? ⟨b, 6, none⟩ = some a6 ∧ w.cell? ⟨b, 7, none⟩ = some a7 ∧ w.cell? ⟨b, 8, none⟩ = some a8 ∧ w.cell? ⟨b, 9, none⟩ = some a9 ∧ w.cell? ⟨b, 10, none⟩ = some a10 ∧ w.cell? ⟨b, 11, none⟩ = some a11 :=
  ⟨(blk_cell h 0).trans rfl, (blk_cell h 1).trans rfl, (blk_cell h 2).trans rfl, (blk_cell h 3).trans rfl, (blk_cell h 4).trans rfl, (blk_cell h 5).trans rfl, (blk_cell h 6).trans rfl, (blk_cell h 7).trans rfl, (blk_cell h 8).trans rfl, (blk_cell h 9).trans rfl, (blk_cell h 10).trans rfl, (blk_cell h 11).trans rfl⟩
theorem warm12 {w : World} {b : Nat} {a0 a1 a2 a3 a4 a5 a6 a7 a8 a9 a10 a11 : Value} {T : TypeId} (h : w.heap[b]? = some (.cells #[a0, a1, a2, a3, a4, a5, a6, a7, a8, a9, a10, a11] T (0, 0))) :
    w.frozen? ⟨b, 0, none⟩ = false ∧ w.frozen? ⟨b, 1, none⟩ = false ∧ w.frozen? ⟨b, 2, none⟩ = false ∧ w.frozen? ⟨b, 3, none⟩ = false ∧ w.frozen? ⟨b, 4, none⟩ = false ∧ w.frozen? ⟨b, 5, none⟩ = false ∧
    w.frozen? ⟨b, 6, none⟩ = false ∧ w.frozen? ⟨b, 7, none⟩ = false ∧ w.frozen? ⟨b, 8, none⟩ = false ∧ w.frozen? ⟨b, 9, none⟩ = false ∧ w.frozen? ⟨b, 10, none⟩ = false ∧ w.frozen? ⟨b, 11, none⟩ = false :=
  ⟨blk_frozen h 0, blk_frozen h 1, blk_frozen h 2, blk_frozen h 3, blk_frozen h 4, blk_frozen h 5, blk_frozen h 6, blk_frozen h 7, blk_frozen h 8, blk_frozen h 9, blk_frozen h 10, blk_frozen h 11⟩
/-- A step under way: the parser, the answer's cell, the step's own block, the list of what it has. -/
structure Sp (w0 w wc : World) (g : Nat) (s0 : List S28) (s1 s2 s3 : Int) (ga : Nat) (x : S45) (v3 v6 : Value) : Prop where
  f : Fr w0 w wc g s0 s1 s2 s3 w.heap.size zero45 45
  o : Ob wc (w.heap.size + 1) g ga x v3 v6
  ge : w.heap.size < ga
theorem Sp.arg {w0 w wc w2 : World} {g : Nat} {s0 : List S28} {s1 s2 s3 : Int} {ga : Nat} {x : S45} {v3 v6 : Value} (h : Sp w0 w wc g s0 s1 s2 s3 ga x v3 v6) {q : S45 × Int × Int × Int} {e : Ending} (hp : ArgPost w0 wc w2 (w.heap.size + 1) g ga s0 q e) :
    e = .returned (.tuple #[]) ∧ (∃ v3 v6, Sp w0 w w2 g s0 q.2.1 q.2.2.1 q.2.2.2 ga q.1 v3 v6) ∧ KeepBut wc w2 g (some ga) := by
  obtain ⟨he, hi, hb, hk, u3, u6, ho⟩ := hp
  have hge := h.ge
  have h1 : w.heap.size ≠ ga := by omega
  have h2 : some w.heap.size ≠ some ga := fun e => h1 (Option.some.inj e)
  have hbox : w2.heap[w.heap.size]? = some (.cells zero45 45 (0, 0)) := (hk.2 _ (blk_lt h.f.box) h.f.ne h2).trans h.f.box
  have hK : KeepBut w w2 g none := h.f.k.trans hk (.inr ⟨ga, rfl, Nat.le_of_lt hge⟩)
  have hF : Fr w0 w w2 g s0 q.2.1 q.2.2.1 q.2.2.2 w.heap.size zero45 45 := ⟨hi, hb, hK, h.f.ge, h.f.lt, h.f.ne, hbox⟩
  exact ⟨he, ⟨u3, u6, ⟨hF, ho, h.ge⟩⟩, hk⟩
theorem Sp.call {w0 w wc w2 : World} {g : Nat} {s0 : List S28} {s1 s2 s3 r1 r2 r3 : Int} {ga : Nat} {x : S45} {v3 v6 : Value} (h : Sp w0 w wc g s0 s1 s2 s3 ga x v3 v6) (hg : g < w.heap.size)
    (hi : IsS74 w0 w2 g s0 r1 r2 r3) (hb : Below w0.heap.size w0 w2) (hk : KeepBut wc w2 g none) : Sp w0 w w2 g s0 r1 r2 r3 ga x v3 v6 :=
  ⟨h.f.call hi hb hk, h.o.keep hk (fun e => by have := h.ge; omega), h.ge⟩
theorem Sp.quiet {w0 w wc w2 : World} {g : Nat} {s0 : List S28} {s1 s2 s3 : Int} {ga : Nat} {x : S45} {v3 v6 : Value} (h : Sp w0 w wc g s0 s1 s2 s3 ga x v3 v6) (hb : Below wc.heap.size wc w2) : Sp w0 w w2 g s0 s1 s2 s3 ga x v3 v6 :=
  ⟨h.f.quiet hb, h.o.below hb, h.ge⟩
/-- The kind that a word is the word of. -/
def kindFrom (t : List UInt8) : Nat → List (List UInt8) → Option Nat
  | _, [] => none
  | i, f :: l => if f ≠ t ∨ f = [] then kindFrom t (i + 1) l else some i
def kindOf (t : List UInt8) : Option Nat := kindFrom t 0 wordL
def argsF (k : Nat) (s0 : List S28) : List Int → S45 → Int → Int → Int → Option (S45 × Int × Int × Int)
  | [], x, s1, s2, s3 => some (x, s1, s2, s3)
  | a :: l, x, s1, s2, s3 => (argF k s0 s1 s2 s3 x a).bind fun q => argsF k s0 l q.1 q.2.1 q.2.2.1 q.2.2.2
def stepF (k : Nat) (s0 : List S28) (s1 s2 s3 : Int) : Option (S45 × Int × Int × Int) :=
  (say_parser_take.f s0 s1 s2 s3 0).bind fun t => match kindOf t.1.data.toList with
    | some i => (say_args.f k i).bind fun l => (argsF k s0 l { z45 with f0 := i } t.2.1 t.2.2.1 t.2.2.2).bind fun q => (say_parser_mark.f s0 q.2.1 q.2.2.1 q.2.2.2 ⟨#[59]⟩).bind fun m => some (q.1, m.1, m.2.1, m.2.2)
    | none => (say_parser_fail.f s0 s1 t.2.2.1 t.2.2.2).bind fun m => some (z45, m.1, m.2.1, m.2.2)
theorem argF_mono (k : Nat) (s0 : List S28) (s1 s2 s3 : Int) (x : S45) (kind : Int) : LeO (argF k s0 s1 s2 s3 x kind) (argF (k + 1) s0 s1 s2 s3 x kind) := by
  unfold argF
  repeat' first
    | (with_reducible exact LeO.refl _)
    | (with_reducible exact say_parser_names.mono _ _ _ _ _)
    | (with_reducible exact say_parser_count.mono _ _ _ _ _)
    | (with_reducible exact say_parser_paper.mono _ _ _ _ _)
    | (with_reducible refine LeO.ite ?_ ?_)
    | (with_reducible refine LeO.bind ?_ (fun _ => ?_))
theorem argsF_mono (k : Nat) (s0 : List S28) : ∀ l x s1 s2 s3, LeO (argsF k s0 l x s1 s2 s3) (argsF (k + 1) s0 l x s1 s2 s3)
  | [], _, _, _, _ => LeO.refl _
  | _ :: l, _, _, _, _ => LeO.bind (argF_mono _ _ _ _ _ _ _) fun _ => argsF_mono k s0 l _ _ _ _
theorem stepF_mono (k : Nat) (s0 : List S28) (s1 s2 s3 : Int) : LeO (stepF k s0 s1 s2 s3) (stepF (k + 1) s0 s1 s2 s3) := by
  unfold stepF
  refine LeO.bind (LeO.refl _) fun t => ?_
  cases kindOf t.1.data.toList with
  | none => exact LeO.refl _
  | some i => exact LeO.bind (say_args.mono _ _) fun l => LeO.bind (argsF_mono _ _ _ _ _ _ _) fun q => LeO.refl _

end Go.Proofs.Ytokkjnfdfbpphaa.A
namespace Go.Proofs.Ytokkjnfdfbpphaa.A
open Go.RowKit Go.Proofs.YtokkjnfdfbpphaaW.PrintWords Go.Proofs.YtokkjnfdfbpphaaW.PrintLast Go.Proofs.YtokkjnfdfbpphaaW.PrintMore
attribute [local go_sem] max2_int min2_int max_two min_two max_three min_three max_four min_four   -- for this text's walks alone
set_option linter.unusedVariables false
set_option linter.unusedSimpArgs false

/-- A block of the call's own, and nothing older has turned. -/
structure Bx (w wc : World) (g : Nat) (cs : Array Value) (T : TypeId) : Prop where
  b : Below w.heap.size w wc
  box : wc.heap[g]? = some (.cells cs T (0, 0))
  ge : w.heap.size ≤ g
theorem Bx.below {w wc w2 : World} {g : Nat} {cs : Array Value} {T : TypeId} (h : Bx w wc g cs T) (hb : Below wc.heap.size wc w2) : Bx w w2 g cs T :=
  ⟨below_step h.b hb, blk_below h.box hb, h.ge⟩
theorem Bx.drewN {w wc : World} {g : Nat} {cs : Array Value} {T : TypeId} (h : Bx w wc g cs T) (n : Nat) : Bx w (wc.drewN n) g cs T := ⟨pw_below_drewN h.b n, blk_drewN h.box n, h.ge⟩
theorem Bx.drew {w wc : World} {g : Nat} {cs : Array Value} {T : TypeId} (h : Bx w wc g cs T) : Bx w wc.drew g cs T := ⟨below_drew1 h.b, blk_drew h.box, h.ge⟩
theorem Bx.alloc {w wc : World} {g : Nat} {cs : Array Value} {T : TypeId} (h : Bx w wc g cs T) (o : Obj) : Bx w (wc.alloc o) g cs T := ⟨below_alloc h.b o, blk_alloc h.box o, h.ge⟩
theorem Bx.put {w wc : World} {g : Nat} {cs : Array Value} {T : TypeId} (h : Bx w wc g cs T) (j : Nat) (u : Value) {cs2 : Array Value} (hj : cs.setIfInBounds j u = cs2) : Bx w (wc.setCell ⟨g, j, none⟩ u) g cs2 T :=
  ⟨below_set h.b h.ge, blk_put h.box j u hj, h.ge⟩
theorem Bx.far {w wc : World} {g : Nat} {cs : Array Value} {T : TypeId} (h : Bx w wc g cs T) {g2 : Nat} (hg : w.heap.size ≤ g2) (hne : g ≠ g2) (j : Nat) (u : Value) : Bx w (wc.setCell ⟨g2, j, none⟩ u) g cs T :=
  ⟨below_set h.b hg, blk_far h.box hne u, h.ge⟩
theorem Bx.start (w : World) (cs : Array Value) (T : TypeId) : Bx w (w.alloc (.cells cs T)) w.heap.size cs T := ⟨below_alloc (Below.refl _ _) _, blk_new w _, Nat.le_refl _⟩
theorem Bx.next {w wc : World} (hb : Below w.heap.size w wc) (cs : Array Value) (T : TypeId) : Bx w (wc.alloc (.cells cs T)) wc.heap.size cs T := ⟨below_alloc hb _, blk_new wc _, hb.size⟩
theorem Bx.five {w wc : World} {g : Nat} {a0 a1 a2 a3 a4 : Value} {T : TypeId} (h : Bx w wc g #[a0, a1, a2, a3, a4] T) (b0 b1 b2 b3 b4 : Value) :
    Bx w (((((wc.setCell ⟨g, 0, none⟩ b0).setCell ⟨g, 1, none⟩ b1).setCell ⟨g, 2, none⟩ b2).setCell ⟨g, 3, none⟩ b3).setCell ⟨g, 4, none⟩ b4) g #[b0, b1, b2, b3, b4] T :=
  ((((h.put 0 b0 rfl).put 1 b1 rfl).put 2 b2 rfl).put 3 b3 rfl).put 4 b4 rfl
theorem Bx.far5 {w wc : World} {g : Nat} {cs : Array Value} {T : TypeId} (h : Bx w wc g cs T) {g2 : Nat} (hg : w.heap.size ≤ g2) (hne : g ≠ g2) (b0 b1 b2 b3 b4 : Value) :
    Bx w (((((wc.setCell ⟨g2, 0, none⟩ b0).setCell ⟨g2, 1, none⟩ b1).setCell ⟨g2, 2, none⟩ b2).setCell ⟨g2, 3, none⟩ b3).setCell ⟨g2, 4, none⟩ b4) g cs T :=
  ((((h.far hg hne 0 b0).far hg hne 1 b1).far hg hne 2 b2).far hg hne 3 b3).far hg hne 4 b4

end Go.Proofs.Ytokkjnfdfbpphaa.A
