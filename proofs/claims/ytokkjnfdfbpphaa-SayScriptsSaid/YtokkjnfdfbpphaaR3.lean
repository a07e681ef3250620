/- The functions that this claim's statement reaches, each with what it computes and the proof that it does. -/
import Derived.Test.YtokkjnfdfbpphaaR2
namespace Go.Proofs.Ytokkjnfdfbpphaa.A
open Go.RowKit Go.Proofs.YtokkjnfdfbpphaaW.PrintWords Go.Proofs.YtokkjnfdfbpphaaW.PrintLast Go.Proofs.YtokkjnfdfbpphaaW.PrintMore
attribute [local go_sem] max2_int min2_int max_two min_two max_three min_three max_four min_four   -- for this text's walks alone
set_option linter.unusedVariables false
set_option linter.unusedSimpArgs false

/-! ### say_count: function 54 -/
mutual
def say_count.l0 : Nat → Int → List Int → Option (ByteArray)
  | 0, _, _ => none
  | k + 1, x0, x3 => if x0 > 9 then (if x3.length < 140737488355328 then (say_count.l0 k (IntKind.u64.wrap (Int.tdiv x0 10)) (x3 ++ [(IntKind.u64.wrap (48 + (Int.tmod x0 10))) % 256])) else (none)) else (if x3.length < 140737488355328 then ((some (x3 ++ [(IntKind.u64.wrap (48 + x0)) % 256] : List Int)).bind fun y250 => (say_count.l1 k y250 0 (wrap64 ((y250.length : Int) - 1)))) else (none))
def say_count.l1 : Nat → List Int → Int → Int → Option (ByteArray)
  | 0, _, _, _ => none
  | k + 1, x3, x4, x5 => if x4 < x5 then (if 0 ≤ x5 then (if x5 < (x3.length : Int) then (if 0 ≤ x4 then (if x4 < (x3.length : Int) then (say_count.l1 k ((x3.set (x4 : Int).toNat (rd x3 x5)).set (x5 : Int).toNat (rd x3 x4)) (wrap64 (x4 + 1)) (wrap64 (x5 - 1))) else (none)) else (none)) else (none)) else (none)) else (some (strOfNums x3))
end
def say_count.f (k : Nat) (a0 : Int) : Option (ByteArray) := say_count.l0 k a0 ([] : List Int)
theorem say_count.mono_l : ∀ k, (∀ y0 y1, LeO (say_count.l0 k y0 y1) (say_count.l0 (k + 1) y0 y1)) ∧ (∀ y0 y1 y2, LeO (say_count.l1 k y0 y1 y2) (say_count.l1 (k + 1) y0 y1 y2))
  | 0 => ⟨fun _ _ r h => by simp [say_count.l0] at h, fun _ _ _ r h => by simp [say_count.l1] at h⟩
  | k + 1 => by
    obtain ⟨ih0, ih1⟩ := say_count.mono_l k
    refine ⟨?_, ?_⟩
    · intro y0 y1
      unfold say_count.l0
      repeat' first
      | (with_reducible exact ih0 _ _)
      | (with_reducible exact ih1 _ _ _)
      | (with_reducible exact LeO.refl _)
      | (with_reducible exact LeO.none _)
      | (with_reducible refine LeO.ite ?_ ?_)
      | (with_reducible refine LeO.bind ?_ (fun _ => ?_))
      | exact ih0 _ _
      | exact ih1 _ _ _
      | exact LeO.none _
      | refine LeO.ite ?_ ?_
      | refine LeO.bind ?_ (fun _ => ?_)
    · intro y0 y1 y2
      unfold say_count.l1
      repeat' first
      | (with_reducible exact ih0 _ _)
      | (with_reducible exact ih1 _ _ _)
      | (with_reducible exact LeO.refl _)
      | (with_reducible exact LeO.none _)
      | (with_reducible refine LeO.ite ?_ ?_)
      | (with_reducible refine LeO.bind ?_ (fun _ => ?_))
      | exact ih0 _ _
      | exact ih1 _ _ _
      | exact LeO.none _
      | refine LeO.ite ?_ ?_
      | refine LeO.bind ?_ (fun _ => ?_)
theorem say_count.mono : ∀ a0 k, LeO (say_count.f k a0) (say_count.f (k + 1) a0) := by
  intro a0 k
  obtain ⟨ih0, ih1⟩ := say_count.mono_l k
  unfold say_count.f
  repeat' first
      | (with_reducible exact ih0 _ _)
      | (with_reducible exact ih1 _ _ _)
      | (with_reducible exact LeO.refl _)
      | (with_reducible exact LeO.none _)
      | (with_reducible refine LeO.ite ?_ ?_)
      | (with_reducible refine LeO.bind ?_ (fun _ => ?_))
      | exact ih0 _ _
      | exact ih1 _ _ _
      | exact LeO.none _
      | refine LeO.ite ?_ ?_
      | refine LeO.bind ?_ (fun _ => ?_)
def say_count.T9 : Bool × List (List Nat × List Nat) := (true, [([], []), ([], []), ([], []), ([], []), ([], []), ([], []), ([4, 5], [4, 5]), ([6], [6]), ([], []), ([], []), ([8, 9], [8, 9]), ([10], [10]), ([0, 1, 0, 1, 4, 5, 6, 7, 11], [0, 1]), ([12, 7, 0, 1, 4, 5, 6, 7, 11], [7, 12]), ([2, 3, 0, 1, 2, 3, 4, 5, 6, 7, 8, 9, 10, 11, 12, 13], [2, 3]), ([14, 11, 13, 0, 1, 2, 3, 4, 5, 6, 7, 8, 9, 10, 11, 12, 13], [11, 14])])
def say_count.B9 : List Nat := [0, 0, 0, 0, 0, 0, 48, 112, 0, 0, 768, 1792, 4083, 8179, 16383, 32767]
theorem say_count.tab9 : rtab .any (opsOf Try.f54 9) = say_count.T9 := by kernel_rfl
theorem say_count.bits9 : waitsOk say_count.T9.2 say_count.B9 = true := by kernel_rfl
set_option maxHeartbeats 8000000 in
set_option maxRecDepth 100000 in
theorem say_count.calls (k : Nat) (a0 : Int) (r : ByteArray) (w : World) (h : say_count.f k a0 = some r) :
    Calls Try.prog 54 #[.int .u64 a0] w fun e w' => e = .returned (.string r) ∧ Below w.heap.size w w' := by
  have HB := Aside0.mk (Below.refl w.heap.size w)
  have H : (say_count.l0 k a0 ([] : List Int)) = some r := h
  clear h
  have H' := Aside0.mk H
  clear H
  go_enter Try.func54, Try.ntmps54
  go_wp2
  go_loopg [0, 3] k (fun kq v0 v3 w' => ∃ (x0_1 : Int) (x3_1 : List Int), v0 = .int .u64 x0_1 ∧ Aside0 (say_count.l0 kq x0_1 x3_1 = some r) ∧ Aside0 (kq ≤ k) ∧ Aside0 (Kd.R (Kd.int .u8) 5 w' w.heap.size (fun _ => True) v3 x3_1) ∧ Aside0 (Below w.heap.size w w'))
  case atStart => exact ⟨(a0), (([] : List Int)), (by first | rfl | (simp; done) | (simp [*]; done)), H', ⟨Nat.le_refl _⟩, ⟨by first | exact Kd.R_nil _ _ _ _ _ | exact Kd.N_nil _ _ _ _ _ | exact Kd.V_nil _ _ _ _ _ | exact Kd.Q_nil _ _ _ _ _ | exact Kd.S_nil _ _ _ _ _⟩, ⟨by repeat (first | (with_reducible first | exact HB.out | apply below_alloc | apply pw_below_drewN | apply below_drew1) | exact HB.out)⟩⟩
  case round =>
    clear H'
    obtain ⟨x0_1, x3_1, rfl, HA, HK1, HO_3, HB⟩ := hrel
    cases gk with
    | zero => exact absurd HA.out (by simp [say_count.l0])
    | succ k1 =>
      have H := HA.out
      clear HA
      simp only [say_count.l0] at H
      by_cases c2 : x0_1 > 9
      · rw [if_pos c2] at H
        have c2b0 : decide (9 < x0_1) = true := decide_eq_true c2
        clear c2
        by_cases c3 : x3_1.length < 140737488355328
        · rw [if_pos c3] at H
          have LMc3 := Aside0.mk c3
          clear c3
          obtain ⟨y247, hy247⟩ : ∃ y_ : List Int, y_ = (x3_1 ++ [(IntKind.u64.wrap (48 + (Int.tmod x0_1 10))) % 256]) := ⟨_, rfl⟩
          replace H : (say_count.l0 k1 (IntKind.u64.wrap (Int.tdiv x0_1 10)) y247) = some r := by first | (rw [hy247]; with_reducible exact H) | (have H2_ := (Option.bind_some _ _).symm.trans H; rw [hy247]; with_reducible exact H2_) | (have H2_ := (Option.bind_some _ _).symm.trans H; with_reducible exact H2_) | with_reducible exact H | (rw [hy247]; exact H) | exact H
          have Ny247 := Aside0.mk hy247
          clear hy247
          have H' := Aside0.mk H
          clear H
          go_wp2_with (first | ((with_reducible refine gate_builtin (b := .append) (xs := #[.tmp 10, .tmp 15]) rfl ?_); at_builtin; refine Kd.R_append (Kd.int .u8) (w0 := w) w.heap.size rfl (.tmp 10) (.tmp 15) 55 5 (.int .u8 0) 1 rfl Try.underlying55 info5 rfl (by decide) (by omega) u3 x3_1 ((IntKind.u64.wrap (48 + (Int.tmod x0_1 10))) % 256) [.int .u8 ((IntKind.u64.wrap (48 + (Int.tmod x0_1 10))) % 256)] (fun _ => True) (fun _ => False) rfl rfl ?aP (fun _ hk => hk.elim) ?aF ?aO ?aB ?aS ?aL ?_; (case aP => exact rfl); (case aB => exact (by repeat (first | (with_reducible first | exact HB.out | apply below_alloc | apply pw_below_drewN | apply below_drew1) | exact HB.out))); (case aF => exact (fun _ _ => trivial)); (case aO => exact (by (with_reducible repeat (first | apply Kd.R_alloc | apply Kd.R_drewN | apply Kd.R_drew)); exact HO_3.out)); (case aS => exact (below_size (by repeat (first | (with_reducible first | exact HB.out | apply below_alloc | apply pw_below_drewN | apply below_drew1) | exact HB.out)))); (case aL => have := LMc3.out; omega); intro v248 w4 ho hb hg hat; rw [← Ny247.out] at ho; have n0_ := Aside0.mk (hb); have n1_ := Aside0.mk (ho); clear HB; clear HO_3; have HB := n0_; have HO249 := n1_; clear n0_ n1_; clear ho hb hg hat))
          go_roundg k1
          case measure => have := HK1.out; omega
          case rel => exact ⟨(IntKind.u64.wrap (Int.tdiv x0_1 10)), (y247), (by first | rfl | (simp; done) | (simp [*]; done)), H', ⟨by have := HK1.out; omega⟩, ⟨by (with_reducible repeat (first | apply Kd.R_alloc | apply Kd.R_drewN | apply Kd.R_drew)); exact HO249.out⟩, ⟨by repeat (first | (with_reducible first | exact HB.out | apply below_alloc | apply pw_below_drewN | apply below_drew1) | exact HB.out)⟩⟩
        · rw [if_neg c3] at H
          exact absurd H (by simp)
      · rw [if_neg c2] at H
        have c2b0 : decide (9 < x0_1) = false := decide_eq_false c2
        clear c2
        by_cases c5 : x3_1.length < 140737488355328
        · rw [if_pos c5] at H
          have LMc5 := Aside0.mk c5
          clear c5
          obtain ⟨y250, hy250⟩ : ∃ y_ : List Int, y_ = (x3_1 ++ [(IntKind.u64.wrap (48 + x0_1)) % 256]) := ⟨_, rfl⟩
          replace H : (say_count.l1 k1 y250 0 (wrap64 ((y250.length : Int) - 1))) = some r := by first | (rw [hy250]; with_reducible exact H) | (have H2_ := (Option.bind_some _ _).symm.trans H; rw [hy250]; with_reducible exact H2_) | (have H2_ := (Option.bind_some _ _).symm.trans H; with_reducible exact H2_) | with_reducible exact H | (rw [hy250]; exact H) | exact H
          have Ny250 := Aside0.mk hy250
          clear hy250
          have H' := Aside0.mk H
          clear H
          go_wp2_with (first | ((with_reducible refine gate_builtin (b := .append) (xs := #[.tmp 17, .tmp 21]) rfl ?_); at_builtin; refine Kd.R_append (Kd.int .u8) (w0 := w) w.heap.size rfl (.tmp 17) (.tmp 21) 55 5 (.int .u8 0) 1 rfl Try.underlying55 info5 rfl (by decide) (by omega) u3 x3_1 ((IntKind.u64.wrap (48 + x0_1)) % 256) [.int .u8 ((IntKind.u64.wrap (48 + x0_1)) % 256)] (fun _ => True) (fun _ => False) rfl rfl ?aP (fun _ hk => hk.elim) ?aF ?aO ?aB ?aS ?aL ?_; (case aP => exact rfl); (case aB => exact (by repeat (first | (with_reducible first | exact HB.out | apply below_alloc | apply pw_below_drewN | apply below_drew1) | exact HB.out))); (case aF => exact (fun _ _ => trivial)); (case aO => exact (by (with_reducible repeat (first | apply Kd.R_alloc | apply Kd.R_drewN | apply Kd.R_drew)); exact HO_3.out)); (case aS => exact (below_size (by repeat (first | (with_reducible first | exact HB.out | apply below_alloc | apply pw_below_drewN | apply below_drew1) | exact HB.out)))); (case aL => have := LMc5.out; omega); intro v251 w6 ho hb hg hat; rw [← Ny250.out] at ho; have n0_ := Aside0.mk (hb); have n1_ := Aside0.mk (ho); clear HB; clear HO_3; have HB := n0_; have HO252 := n1_; clear n0_ n1_; clear ho hb hg hat; obtain ⟨Ao7, co7, eo7⟩ := Kd.R_slice HO252.out; subst eo7))
          go_loopg [4, 5] k1 (fun kq v4 v5 w' => ∃ (x3_2 : List Int) (x4_2 : Int) (x5_2 : Int), v4 = .int .i64 x4_2 ∧ v5 = .int .i64 x5_2 ∧ Aside0 (say_count.l1 kq x3_2 x4_2 x5_2 = some r) ∧ Aside0 (kq ≤ k1) ∧ Aside0 (Kd.R (Kd.int .u8) 5 w' w.heap.size (fun _ => True) (.slice Ao7 y250.length co7) x3_2) ∧ Aside0 (Below w.heap.size w w'))
          case atStart => exact ⟨(y250), (0), (wrap64 ((y250.length : Int) - 1)), (by first | rfl | (simp; done) | (simp [*]; done)), (by first | rfl | (simp; done) | (simp [*]; done)), H', ⟨Nat.le_refl _⟩, ⟨by (with_reducible repeat (first | apply Kd.R_alloc | apply Kd.R_drewN | apply Kd.R_drew)); exact HO252.out⟩, ⟨by repeat (first | (with_reducible first | exact HB.out | apply below_alloc | apply pw_below_drewN | apply below_drew1) | exact HB.out)⟩⟩
          case round =>
            clear H'
            try clear c2
            try clear c2b0
            try clear p2
            try clear c3
            try clear c5
            try clear p6
            obtain ⟨x3_2, x4_2, x5_2, rfl, rfl, HA, HK2, HO_3, HB⟩ := hrel
            have hl3_2 := (Kd.R_reads' HO_3.out).1
            rw [hl3_2] at HO_3
            (try simp only [hl3_2])
            cases gk with
            | zero => exact absurd HA.out (by simp [say_count.l1])
            | succ k2 =>
              have H := HA.out
              clear HA
              simp only [say_count.l1] at H
              by_cases c8 : x4_2 < x5_2
              · rw [if_pos c8] at H
                have c8b0 : decide (x4_2 < x5_2) = true := decide_eq_true c8
                clear c8
                by_cases c9 : 0 ≤ x5_2
                · rw [if_pos c9] at H
                  have c9b0 : decide (0 ≤ x5_2) = true := decide_eq_true c9
                  clear c9
                  by_cases c10 : x5_2 < (x3_2.length : Int)
                  · rw [if_pos c10] at H
                    have c10b0 : decide (x5_2 < (x3_2.length : Int)) = true := decide_eq_true c10
                    clear c10
                    by_cases c11 : 0 ≤ x4_2
                    · rw [if_pos c11] at H
                      have c11b0 : decide (0 ≤ x4_2) = true := decide_eq_true c11
                      clear c11
                      by_cases c12 : x4_2 < (x3_2.length : Int)
                      · rw [if_pos c12] at H
                        have c12b0 : decide (x4_2 < (x3_2.length : Int)) = true := decide_eq_true c12
                        clear c12
                        obtain ⟨y255, hy255⟩ : ∃ y_ : List Int, y_ = (x3_2.set (x4_2 : Int).toNat (rd x3_2 x5_2)) := ⟨_, rfl⟩
                        replace H : (say_count.l1 k2 (y255.set (x5_2 : Int).toNat (rd x3_2 x4_2)) (wrap64 (x4_2 + 1)) (wrap64 (x5_2 - 1))) = some r := by first | (rw [hy255]; with_reducible exact H) | (have H2_ := (Option.bind_some _ _).symm.trans H; rw [hy255]; with_reducible exact H2_) | (have H2_ := (Option.bind_some _ _).symm.trans H; with_reducible exact H2_) | with_reducible exact H | (rw [hy255]; exact H) | exact H
                        have Ny255 := Aside0.mk hy255
                        clear hy255
                        obtain ⟨y256, hy256⟩ : ∃ y_ : List Int, y_ = (y255.set (x5_2 : Int).toNat (rd x3_2 x4_2)) := ⟨_, rfl⟩
                        replace H : (say_count.l1 k2 y256 (wrap64 (x4_2 + 1)) (wrap64 (x5_2 - 1))) = some r := by first | (rw [hy256]; with_reducible exact H) | (have H2_ := (Option.bind_some _ _).symm.trans H; rw [hy256]; with_reducible exact H2_) | (have H2_ := (Option.bind_some _ _).symm.trans H; with_reducible exact H2_) | with_reducible exact H | (rw [hy256]; exact H) | exact H
                        have Ny256 := Aside0.mk hy256
                        clear hy256
                        have H' := Aside0.mk H
                        clear H
                        try go_wp2
                        have n0_ := Aside0.mk (Kd.R_drew HO_3.out)
                        have n1_ := Aside0.mk (below_drew1 HB.out)
                        clear HO_3
                        clear HB
                        have HO_3 := n0_
                        have HB := n1_
                        clear n0_ n1_
                        have p253 : 0 ≤ (x5_2 : Int) := of_decide_eq_true (by first | (with_reducible assumption) | assumption)
                        have q253 : x5_2 < (x3_2.length : Int) := of_decide_eq_true (by first | (with_reducible assumption) | assumption)
                        obtain ⟨ad253, e253, hx253_0⟩ := Kd.at_int (Kd.R_reads' HO_3.out).2.2 x5_2 p253 q253
                        cases e253
                        replace p253 := eq_true p253
                        replace q253 := eq_true q253
                        have p254 : 0 ≤ (x4_2 : Int) := of_decide_eq_true (by first | (with_reducible assumption) | assumption)
                        have q254 : x4_2 < (x3_2.length : Int) := of_decide_eq_true (by first | (with_reducible assumption) | assumption)
                        obtain ⟨ad254, e254, hx254_0⟩ := Kd.at_int (Kd.R_reads' HO_3.out).2.2 x4_2 p254 q254
                        obtain rfl : ad253 = ad254 := (by injection e254)
                        replace p254 := eq_true p254
                        replace q254 := eq_true q254
                        have p13 : 0 ≤ (x4_2 : Int) := of_decide_eq_true (by first | (with_reducible assumption) | assumption)
                        have q13 : (x4_2 : Int) < ((x3_2.length : Int) : Int) := of_decide_eq_true (by first | (with_reducible assumption) | assumption)
                        obtain ⟨go13, co13, eo13, gb13, gl13, cl13, HG13⟩ := Kd.R_form HO_3.out (by omega)
                        (first | cases eo13 | (injection eo13 with ea_ en_ ec_; (first | subst ea_ | (injection ea_ with ea_; subst ea_)); subst ec_; clear en_))
                        have GB13 := Aside0.mk gb13
                        have GG13 := Aside0.mk HG13
                        clear gb13 gl13 HG13
                        (first | simp only [add_plain] at hx253_0 | skip)
                        (first | simp only [add_plain] at hx254_0 | skip)
                        obtain ⟨hx13_0, hf13_0⟩ := Kd.R_celln 0 HO_3.out (x4_2 : Int) p13 q13
                        replace p13 := eq_true p13
                        replace q13 := eq_true q13
                        have HP16 := Kd.R_putn HO_3.out (x4_2 : Int) (rd x3_2 x5_2)
                        rw [← Ny255.out] at HP16
                        have HQ16 := Aside0.mk HP16
                        clear HP16
                        have p14 : 0 ≤ (x5_2 : Int) := of_decide_eq_true (by first | (with_reducible assumption) | assumption)
                        have q14 : (x5_2 : Int) < ((x3_2.length : Int) : Int) := of_decide_eq_true (by first | (with_reducible assumption) | assumption)
                        obtain ⟨hx14_0, hf14_0⟩ := Kd.R_celln 0 HQ16.out (x5_2 : Int) p14 q14
                        replace p14 := eq_true p14
                        replace q14 := eq_true q14
                        have HP17 := Kd.R_putn HQ16.out (x5_2 : Int) (rd x3_2 x4_2)
                        rw [← Ny256.out] at HP17
                        have HQ17 := Aside0.mk HP17
                        clear HP17
                        refine start_ (n := 16) (S := fun w' => w'.cell? ⟨go13, (x5_2).toNat, none⟩ = some (.int .u8 (rd x3_2 x5_2)) ∧ w'.cell? ⟨go13, (x4_2).toNat, none⟩ = some (.int .u8 (rd x3_2 x4_2))) (ds := [13, 15]) #[false, false, false, false, false, false, false, false, false, false, false, false, false, false, false, false] (by kernel_rfl) rfl rfl ⟨hx253_0, hx254_0⟩ (fun hHeld => ?_); refine with_tabW say_count.tab9 say_count.bits9 (fun HT_ HW_ => ?_)
                        generalize wr.drew = w15 at HO_3 HB GG13 HQ16 HQ17 hf13_0 hf14_0 hx13_0 hx14_0 hx253_0 hx254_0 hHeld ⊢
                        refine pure_ (i := 0) (N := some 33) (v := ?_) (a' := ?_) #[true, false, false, false, false, false, false, false, false, false, false, false, false, false, false, false] rfl rfl (any_of HT_.out (by kernel_rfl)) (fun _ _ _ h => h) (Or.inl ⟨by rfl, ?_⟩) ?_ ?_
                        rotate_left
                        · intro w'
                          go_simp
                          with_reducible rfl
                        rotate_left
                        · simp only [Act.put, List.setIfInBounds_toArray, List.set_cons_zero, List.set_cons_succ, i64_w, i32_w]
                          rfl
                        refine pure_ (i := 1) (N := some 34) (v := ?_) (a' := ?_) #[true, true, false, false, false, false, false, false, false, false, false, false, false, false, false, false] rfl rfl (any_of HT_.out (by kernel_rfl)) (fun _ _ _ h => h) (Or.inl ⟨by rfl, ?_⟩) ?_ ?_
                        rotate_left
                        · intro w'
                          go_simp
                          with_reducible rfl
                        rotate_left
                        · simp only [Act.put, List.setIfInBounds_toArray, List.set_cons_zero, List.set_cons_succ, i64_w, i32_w]
                          rfl
                        refine pure_ (i := 2) (N := some 35) (v := ?_) (a' := ?_) #[true, true, true, false, false, false, false, false, false, false, false, false, false, false, false, false] rfl rfl (any_of HT_.out (by kernel_rfl)) (fun _ _ _ h => h) (Or.inl ⟨by rfl, ?_⟩) ?_ ?_
                        rotate_left
                        · intro w'
                          go_simp
                          with_reducible rfl
                        rotate_left
                        · simp only [Act.put, List.setIfInBounds_toArray, List.set_cons_zero, List.set_cons_succ, i64_w, i32_w]
                          rfl
                        refine pure_ (i := 3) (N := some 36) (v := ?_) (a' := ?_) #[true, true, true, true, false, false, false, false, false, false, false, false, false, false, false, false] rfl rfl (any_of HT_.out (by kernel_rfl)) (fun _ _ _ h => h) (Or.inl ⟨by rfl, ?_⟩) ?_ ?_
                        rotate_left
                        · intro w'
                          go_simp
                          with_reducible rfl
                        rotate_left
                        · simp only [Act.put, List.setIfInBounds_toArray, List.set_cons_zero, List.set_cons_succ, i64_w, i32_w]
                          rfl
                        refine pure_ (i := 4) (N := some 37) (v := ?_) (a' := ?_) #[true, true, true, true, true, false, false, false, false, false, false, false, false, false, false, false] rfl rfl (any_of HT_.out (by kernel_rfl)) (fun _ _ _ h => h) (Or.inl ⟨by rfl, ?_⟩) ?_ ?_
                        rotate_left
                        · intro w'
                          go_simp
                          with_reducible rfl
                        rotate_left
                        · simp only [Act.put, List.setIfInBounds_toArray, List.set_cons_zero, List.set_cons_succ, i64_w, i32_w]
                          rfl
                        refine pure_ (i := 5) (N := some 38) (v := ?_) (a' := ?_) #[true, true, true, true, true, true, false, false, false, false, false, false, false, false, false, false] rfl rfl (any_of HT_.out (by kernel_rfl)) (fun _ _ _ h => h) (Or.inl ⟨by rfl, ?_⟩) ?_ ?_
                        rotate_left
                        · intro w'
                          go_simp
                          with_reducible rfl
                        rotate_left
                        · simp only [Act.put, List.setIfInBounds_toArray, List.set_cons_zero, List.set_cons_succ, i64_w, i32_w]
                          rfl
                        refine pure_ (i := 6) (N := some 39) (v := ?_) (a' := ?_) #[true, true, true, true, true, true, true, false, false, false, false, false, false, false, false, false] rfl rfl (any_of HT_.out (by kernel_rfl)) (fun _ _ _ h => h) (Or.inl ⟨by rfl, ?_⟩) ?_ ?_
                        rotate_left
                        · intro w'
                          go_simp
                          with_reducible rfl
                        rotate_left
                        · simp only [Act.put, List.setIfInBounds_toArray, List.set_cons_zero, List.set_cons_succ, i64_w, i32_w]
                          rfl
                        refine pure_ (i := 8) (N := some 41) (v := ?_) (a' := ?_) #[true, true, true, true, true, true, true, false, true, false, false, false, false, false, false, false] rfl rfl (any_of HT_.out (by kernel_rfl)) (fun _ _ _ h => h) (Or.inl ⟨by rfl, ?_⟩) ?_ ?_
                        rotate_left
                        · intro w'
                          go_simp
                          with_reducible rfl
                        rotate_left
                        · simp only [Act.put, List.setIfInBounds_toArray, List.set_cons_zero, List.set_cons_succ, i64_w, i32_w]
                          rfl
                        refine pure_ (i := 9) (N := some 42) (v := ?_) (a' := ?_) #[true, true, true, true, true, true, true, false, true, true, false, false, false, false, false, false] rfl rfl (any_of HT_.out (by kernel_rfl)) (fun _ _ _ h => h) (Or.inl ⟨by rfl, ?_⟩) ?_ ?_
                        rotate_left
                        · intro w'
                          go_simp
                          with_reducible rfl
                        rotate_left
                        · simp only [Act.put, List.setIfInBounds_toArray, List.set_cons_zero, List.set_cons_succ, i64_w, i32_w]
                          rfl
                        refine pure_ (i := 10) (N := some 43) (v := ?_) (a' := ?_) #[true, true, true, true, true, true, true, false, true, true, true, false, false, false, false, false] rfl rfl (any_of HT_.out (by kernel_rfl)) (fun _ _ _ h => h) (Or.inl ⟨by rfl, ?_⟩) ?_ ?_
                        rotate_left
                        · intro w'
                          go_simp
                          with_reducible rfl
                        rotate_left
                        · simp only [Act.put, List.setIfInBounds_toArray, List.set_cons_zero, List.set_cons_succ, i64_w, i32_w]
                          rfl
                        refine take_ (i := 7) (N := some 40) (v := ?_) (a' := ?_) #[true, true, true, true, true, true, true, true, true, true, true, false, false, false, false, false] rfl rfl (take_ofW HT_.out HW_.out (by kernel_rfl)) (fun _ _ _ h => h) (Or.inl ⟨by rfl, ?_⟩) hHeld ?_ ?_
                        rotate_left
                        · rintro w' ⟨s0, s1⟩
                          go_simp
                          with_reducible rfl
                        rotate_left
                        · simp only [Act.put, List.setIfInBounds_toArray, List.set_cons_zero, List.set_cons_succ, i64_w, i32_w]
                          rfl
                        refine take_ (i := 11) (N := some 44) (v := ?_) (a' := ?_) #[true, true, true, true, true, true, true, true, true, true, true, true, false, false, false, false] rfl rfl (take_ofW HT_.out HW_.out (by kernel_rfl)) (fun _ _ _ h => h) (Or.inl ⟨by rfl, ?_⟩) hHeld ?_ ?_
                        rotate_left
                        · rintro w' ⟨s0, s1⟩
                          go_simp
                          with_reducible rfl
                        rotate_left
                        · simp only [Act.put, List.setIfInBounds_toArray, List.set_cons_zero, List.set_cons_succ, i64_w, i32_w]
                          rfl
                        refine pure_ (i := 12) (N := some 45) (v := ?_) (a' := ?_) #[true, true, true, true, true, true, true, true, true, true, true, true, true, false, false, false] rfl rfl (any_of HT_.out (by kernel_rfl)) (fun _ _ _ h => h) (Or.inl ⟨by rfl, ?_⟩) ?_ ?_
                        rotate_left
                        · intro w'
                          go_simp
                          with_reducible rfl
                        rotate_left
                        · simp only [Act.put, List.setIfInBounds_toArray, List.set_cons_zero, List.set_cons_succ, i64_w, i32_w]
                          rfl
                        refine last_ (i := 13) (N := none) #[true, true, true, true, true, true, true, true, true, true, true, true, true, true, false, false] rfl rfl (one_of HT_.out (by kernel_rfl)) (by decide) (fun K hK => ?_)
                        refine skip_ (w1 := ?_) (by rfl) rfl ?_ ?_
                        rotate_left
                        · go_simp
                          rfl
                        refine hK.out _ _ ?_
                        clear hK K
                        refine pure_ (i := 14) (N := some 46) (v := ?_) (a' := ?_) #[true, true, true, true, true, true, true, true, true, true, true, true, true, true, true, false] rfl rfl (any_of HT_.out (by kernel_rfl)) (fun _ _ _ h => h) (Or.inl ⟨by rfl, ?_⟩) ?_ ?_
                        rotate_left
                        · intro w'
                          go_simp
                          with_reducible rfl
                        rotate_left
                        · simp only [Act.put, List.setIfInBounds_toArray, List.set_cons_zero, List.set_cons_succ, i64_w, i32_w]
                          rfl
                        refine last_ (i := 15) (N := none) #[true, true, true, true, true, true, true, true, true, true, true, true, true, true, true, true] rfl rfl (one_of HT_.out (by kernel_rfl)) (by decide) (fun K hK => ?_)
                        refine skip_ (w1 := ?_) (by rfl) rfl ?_ ?_
                        rotate_left
                        · go_simp
                          rfl
                        refine hK.out _ _ ?_
                        clear hK K
                        refine done_ (done_of HT_.out (by kernel_rfl)) ?_
                        try go_wp2
                        (try simp only [← hl3_2])
                        go_roundg k2
                        case measure => have := HK1.out; have := HK2.out; omega
                        case rel => exact ⟨(y256), (wrap64 (x4_2 + 1)), (wrap64 (x5_2 - 1)), (by first | rfl | (simp; done) | (simp [*]; done)), (by first | rfl | (simp; done) | (simp [*]; done)), H', ⟨by have := HK1.out; have := HK2.out; omega⟩, ⟨by (try simp only [hl3_2]); (with_reducible repeat (first | apply Kd.R_alloc | apply Kd.R_drewN | apply Kd.R_drew)); exact HQ17.out⟩, ⟨by repeat (first | (with_reducible first | exact HB.out | apply below_alloc | apply pw_below_drewN | apply below_drew1 | refine below_set ?_ GB13.out | refine below_set ?_ GB13.out) | exact HB.out)⟩⟩
                      · rw [if_neg c12] at H
                        exact absurd H (by simp)
                    · rw [if_neg c11] at H
                      exact absurd H (by simp)
                  · rw [if_neg c10] at H
                    exact absurd H (by simp)
                · rw [if_neg c9] at H
                  exact absurd H (by simp)
              · rw [if_neg c8] at H
                have c8b0 : decide (x4_2 < x5_2) = false := decide_eq_false c8
                clear c8
                obtain rfl := Option.some.inj H
                have hcv18 := own_string (P := Try.prog) Try.underlying55 Try.underlying5 Try.underlying9 (Kd.own_of_R HO_3.out)
                go_wp2
                go_ret
                exact ⟨by first | rfl | (simp [errW_none, errW_some] <;> rfl) | (simp [*, errW_none, errW_some] <;> rfl), by repeat (first | (with_reducible first | exact HB.out | apply below_alloc | apply pw_below_drewN | apply below_drew1) | exact HB.out)⟩
        · rw [if_neg c5] at H
          exact absurd H (by simp)

end Go.Proofs.Ytokkjnfdfbpphaa.A
namespace Go.Proofs.Ytokkjnfdfbpphaa.A
open Go.RowKit Go.Proofs.YtokkjnfdfbpphaaW.PrintWords Go.Proofs.YtokkjnfdfbpphaaW.PrintLast Go.Proofs.YtokkjnfdfbpphaaW.PrintMore
attribute [local go_sem] max2_int min2_int max_two min_two max_three min_three max_four min_four   -- for this text's walks alone
set_option linter.unusedVariables false
set_option linter.unusedSimpArgs false

/-! ### say_whole: function 31 -/
def say_whole.f (k : Nat) (a0 : Int) : Option (ByteArray) := if a0 < 0 then ((say_count.f k (IntKind.u64.wrap (-(IntKind.u64.wrap (a0))))).bind fun t257 => (if 1 + t257.size ≤ 9223372036854775807 then (some ((⟨#[45]⟩ : ByteArray) ++ t257)) else (none))) else ((say_count.f k (IntKind.u64.wrap (a0))).bind fun t258 => (some t258))
theorem say_whole.mono : ∀ a0 k, LeO (say_whole.f k a0) (say_whole.f (k + 1) a0) := by
  intro a0 k
  unfold say_whole.f
  repeat' first
      | (with_reducible exact say_count.mono _ _)
      | (with_reducible exact LeO.refl _)
      | (with_reducible exact LeO.none _)
      | (with_reducible refine LeO.ite ?_ ?_)
      | (with_reducible refine LeO.bind ?_ (fun _ => ?_))
      | exact say_count.mono _ _
      | exact LeO.none _
      | refine LeO.ite ?_ ?_
      | refine LeO.bind ?_ (fun _ => ?_)
set_option maxHeartbeats 8000000 in
set_option maxRecDepth 100000 in
theorem say_whole.calls (k : Nat) (a0 : Int) (r : ByteArray) (w : World) (h : say_whole.f k a0 = some r) :
    Calls Try.prog 31 #[.int .i64 a0] w fun e w' => e = .returned (.string r) ∧ Below w.heap.size w w' := by
  have HB := Aside0.mk (Below.refl w.heap.size w)
  have H : (if a0 < 0 then ((say_count.f k (IntKind.u64.wrap (-(IntKind.u64.wrap (a0))))).bind fun t257 => (if 1 + t257.size ≤ 9223372036854775807 then (some ((⟨#[45]⟩ : ByteArray) ++ t257)) else (none))) else ((say_count.f k (IntKind.u64.wrap (a0))).bind fun t258 => (some t258))) = some r := h
  clear h
  by_cases c2 : a0 < 0
  · rw [if_pos c2] at H
    have c2b0 : decide (a0 < 0) = true := decide_eq_true c2
    clear c2
    replace H := Option.bind_eq_some_iff.mp H
    obtain ⟨t257, A30, H⟩ := H
    replace H : (if 1 + t257.size ≤ 9223372036854775807 then (some ((⟨#[45]⟩ : ByteArray) ++ t257)) else (none)) = some r := H
    have A3 := Aside0.mk A30
    clear A30
    by_cases c4 : 1 + t257.size ≤ 9223372036854775807
    · rw [if_pos c4] at H
      have c4b0 := eq_true c4
      have c4b1 : decide (1 + t257.size ≤ 9223372036854775807) = true := decide_eq_true c4
      try have c4b2 : (9223372036854775807 < 1 + t257.size) = False := eq_false (Nat.not_lt.2 c4)
      obtain rfl := Option.some.inj H
      go_enter Try.func31, Try.ntmps31
      go_wp2_with (first | ((with_reducible refine gate_callee (f := 54) rfl ?_); refine goesL_ (some 8) rfl rfl Try.func54 (by kernel_rfl) rfl #[.int .u64 (IntKind.u64.wrap (-(IntKind.u64.wrap (a0))))] rfl (by (try simp only [List.map_toArray, List.map_cons, List.map_nil]); first | done | rfl | (simp only [List.length_drop, List.length_take]; rfl)) ?_; (with_reducible refine (say_count.calls k (IntKind.u64.wrap (-(IntKind.u64.wrap (a0)))) t257 _ A3.out).mono ?_); rintro e w5 ⟨rfl, hb⟩; refine ⟨_, rfl, ?_⟩; have n0_ := Aside0.mk (below_step (by repeat (first | (with_reducible first | exact HB.out | apply below_alloc | apply pw_below_drewN | apply below_drew1) | exact HB.out)) hb); clear HB; have HB := n0_; clear n0_; (try clear hb); (try clear hb2); (try clear hk); (try clear hi)))
      go_ret
      exact ⟨by first | rfl | (simp [errW_none, errW_some] <;> rfl) | (simp [*, errW_none, errW_some] <;> rfl), by repeat (first | (with_reducible first | exact HB.out | apply below_alloc | apply pw_below_drewN | apply below_drew1) | exact HB.out)⟩
    · rw [if_neg c4] at H
      exact absurd H (by simp)
  · rw [if_neg c2] at H
    have c2b0 : decide (a0 < 0) = false := decide_eq_false c2
    clear c2
    replace H := Option.bind_eq_some_iff.mp H
    obtain ⟨t258, A60, H⟩ := H
    replace H : (some t258) = some r := H
    have A6 := Aside0.mk A60
    clear A60
    obtain rfl := Option.some.inj H
    go_enter Try.func31, Try.ntmps31
    go_wp2_with (first | ((with_reducible refine gate_callee (f := 54) rfl ?_); refine goesL_ (some 12) rfl rfl Try.func54 (by kernel_rfl) rfl #[.int .u64 (IntKind.u64.wrap (a0))] rfl (by (try simp only [List.map_toArray, List.map_cons, List.map_nil]); first | done | rfl | (simp only [List.length_drop, List.length_take]; rfl)) ?_; (with_reducible refine (say_count.calls k (IntKind.u64.wrap (a0)) t258 _ A6.out).mono ?_); rintro e w7 ⟨rfl, hb⟩; refine ⟨_, rfl, ?_⟩; have n0_ := Aside0.mk (below_step (by repeat (first | (with_reducible first | exact HB.out | apply below_alloc | apply pw_below_drewN | apply below_drew1) | exact HB.out)) hb); clear HB; have HB := n0_; clear n0_; (try clear hb); (try clear hb2); (try clear hk); (try clear hi)))
    go_ret
    exact ⟨by first | rfl | (simp [errW_none, errW_some] <;> rfl) | (simp [*, errW_none, errW_some] <;> rfl), by repeat (first | (with_reducible first | exact HB.out | apply below_alloc | apply pw_below_drewN | apply below_drew1) | exact HB.out)⟩

end Go.Proofs.Ytokkjnfdfbpphaa.A
namespace Go.Proofs.Ytokkjnfdfbpphaa.A
open Go.RowKit Go.Proofs.YtokkjnfdfbpphaaW.PrintWords Go.Proofs.YtokkjnfdfbpphaaW.PrintLast Go.Proofs.YtokkjnfdfbpphaaW.PrintMore
attribute [local go_sem] max2_int min2_int max_two min_two max_three min_three max_four min_four   -- for this text's walks alone
set_option linter.unusedVariables false
set_option linter.unusedSimpArgs false

theorem count_swap : ∀ (j k : Nat) (A M B : List Int), M.length ≤ j → j < k → A.length + M.length + B.length < 1000 →
    say_count.l1 k (A ++ M ++ B) (A.length : Int) ((A.length : Int) + (M.length : Int) - 1) = some (strOfNums (A ++ M.reverse ++ B)) := by
  intro j
  induction j using Nat.strongRecOn with
  | ind j ih =>
    intro k A M B hM hk hL
    obtain ⟨k, rfl⟩ : ∃ m, k = m + 1 := ⟨k - 1, by omega⟩
    rcases list_ends M with rfl | ⟨x, rfl⟩ | ⟨x, N, y, rfl⟩
    · rw [say_count.l1, if_neg (by simp; omega)]; simp
    · rw [say_count.l1, if_neg (by simp)]; simp
    · simp only [List.length_cons, List.length_append, List.length_nil] at hM hL
      rw [say_count.l1, if_pos (by simp; omega), if_pos (by simp; omega), if_pos (by simp; omega), if_pos (by omega), if_pos (by simp; omega)]
      have e1 : A ++ x :: (N ++ [y]) ++ B = (A ++ x :: N) ++ y :: B := by simp
      have e2 : (A.length : Int) + ((x :: (N ++ [y])).length : Int) - 1 = ((A ++ x :: N).length : Int) := by simp; omega
      rw [e2, e1]
      rw [rd_mid (A ++ x :: N) y B _ rfl, show rd ((A ++ x :: N) ++ y :: B) (A.length : Int) = x from by rw [List.append_assoc, List.cons_append]; exact rd_mid A x _ _ rfl]
      rw [Int.toNat_natCast, Int.toNat_natCast]
      rw [show ((A ++ x :: N) ++ y :: B).set A.length y = (A ++ y :: N) ++ y :: B from by rw [List.append_assoc, List.cons_append, set_mid]; simp]
      rw [show (A ++ x :: N).length = (A ++ y :: N).length by simp, set_mid]
      have w1 : wrap64 ((A.length : Int) + 1) = ((A ++ [y]).length : Int) := by unfold wrap64; simp; omega
      have w2 : wrap64 (((A ++ y :: N).length : Int) - 1) = ((A ++ [y]).length : Int) + (N.length : Int) - 1 := by unfold wrap64; simp; omega
      rw [w1, w2, show (A ++ y :: N) ++ x :: B = (A ++ [y]) ++ N ++ (x :: B) by simp]
      rw [ih N.length (by omega) k (A ++ [y]) N (x :: B) (Nat.le_refl _) (by omega) (by simp; omega)]
      simp
theorem count_l0 : ∀ (j x : Nat) (acc : List Int) (k : Nat), (dec x).length = j + 1 → acc.length + j < 900 → x < 18446744073709551616 →
    say_count.l0 (k + j + 1) (x : Int) acc = say_count.l1 k (acc ++ nums (dec x).reverse) 0 ((acc.length : Int) + (j : Int)) := by
  intro j
  induction j with
  | zero =>
    intro x acc k hd ha hx
    have h9 : x < 10 := by
      by_cases h : x < 10
      · exact h
      · rw [dec_big x h] at hd; simp at hd; exact absurd hd (dec_ne _)
    rw [say_count.l0, if_neg (by omega), if_pos (by omega)]
    show say_count.l1 k _ 0 _ = _
    rw [digC_num x h9, dec_small x h9]
    simp only [nums, List.reverse_singleton, List.map_cons, List.map_nil, List.length_append, List.length_cons, List.length_nil]
    congr 1
    unfold wrap64; omega
  | succ j ih =>
    intro x acc k hd ha hx
    have h9 : ¬ x < 10 := by intro h; rw [dec_small x h] at hd; simp at hd
    have hm : x % 10 < 10 := Nat.mod_lt _ (by decide)
    rw [dec_big x h9] at hd ⊢
    rw [List.length_append] at hd
    rw [show k + (j + 1) + 1 = (k + j + 1) + 1 by omega, say_count.l0, if_pos (by omega), if_pos (by omega)]
    have e1 : Int.tdiv (x : Int) 10 = ((x / 10 : Nat) : Int) := by rw [Int.tdiv_eq_ediv_of_nonneg (by omega)]; omega
    have e2 : Int.tmod (x : Int) 10 = ((x % 10 : Nat) : Int) := by rw [Int.tmod_eq_emod_of_nonneg (by omega)]; omega
    rw [e1, e2, digC_num _ hm, wraps_u64 _ (by omega) (by omega), ih (x / 10) _ k (by simpa using hd) (by simp; omega) (by omega)]
    simp only [nums, List.reverse_append, List.map_append, List.length_append, List.reverse_singleton, List.map_cons, List.map_nil, List.length_cons, List.length_nil, List.append_assoc]
    congr 1
    omega
theorem say_count_dec (n k : Nat) (h : n < 18446744073709551616) (hk : 50 ≤ k) : say_count.f k (n : Int) = some ⟨(dec n).toArray⟩ := by
  have hl := dec_64 n h
  have hp : 0 < (dec n).length := by have := dec_ne n; exact List.length_pos_iff.2 this
  unfold say_count.f
  obtain ⟨j, hj⟩ : ∃ j, (dec n).length = j + 1 := ⟨(dec n).length - 1, by omega⟩
  obtain ⟨m, rfl⟩ : ∃ m, k = m + j + 1 := ⟨k - j - 1, by omega⟩
  rw [count_l0 j n [] m hj (by simp; omega) h]
  have := count_swap (j + 1) m [] (nums (dec n).reverse) [] (by simp [nums, hj]) (by omega) (by simp [nums, hj]; omega)
  simp only [List.nil_append, List.append_nil, List.length_nil] at this ⊢
  rw [show ((0 : Nat) : Int) + (j : Int) = ((0 : Nat) : Int) + ((nums (dec n).reverse).length : Int) - 1 by simp [nums, hj]]
  rw [show (0 : Int) = ((0 : Nat) : Int) from rfl, this]
  congr 1
  rw [show (nums (dec n).reverse).reverse = nums (dec n) by simp [nums], strOfNums_nums]
theorem say_whole_int (n : Int) (k : Nat) (h1 : -9223372036854775808 ≤ n) (h2 : n < 9223372036854775808) (hk : 50 ≤ k) : say_whole.f k n = some ⟨(intText n).toArray⟩ := by
  unfold say_whole.f intText
  by_cases h : n < 0
  · rw [if_pos h, if_pos h]
    have e : IntKind.u64.wrap (-(IntKind.u64.wrap n)) = (((-n).toNat : Nat) : Int) := by
      simp only [IntKind.wrap, IntKind.bits, IntKind.signed]; simp; omega
    have hl := dec_64 (-n).toNat (by omega)
    rw [e, say_count_dec _ _ (by omega) hk]
    show (if _ then _ else _) = _
    rw [if_pos (by show 1 + (dec (-n).toNat).toArray.size ≤ _; simp; omega)]
    congr 1
  · rw [if_neg h, if_neg h]
    have e : IntKind.u64.wrap n = ((n.toNat : Nat) : Int) := by
      simp only [IntKind.wrap, IntKind.bits, IntKind.signed]; simp; omega
    rw [e, say_count_dec _ _ (by omega) hk]; rfl

end Go.Proofs.Ytokkjnfdfbpphaa.A
namespace Go.Proofs.Ytokkjnfdfbpphaa.A
open Go.RowKit Go.Proofs.YtokkjnfdfbpphaaW.PrintWords Go.Proofs.YtokkjnfdfbpphaaW.PrintLast Go.Proofs.YtokkjnfdfbpphaaW.PrintMore
attribute [local go_sem] max2_int min2_int max_two min_two max_three min_three max_four min_four   -- for this text's walks alone
set_option linter.unusedVariables false
set_option linter.unusedSimpArgs false

/-! ### say_Quoted: function 9 -/
def say_Quoted.f (a0 : ByteArray) : Option (ByteArray) := if a0.size ≤ 4294967296 then some ⟨(quoted a0.data.toList).toArray⟩ else none
set_option maxRecDepth 100000 in
set_option maxHeartbeats 2000000 in
theorem Quoted_calls (s : ByteArray) (w : World) (hs : s.size ≤ 4294967296) :
    Calls Try.prog 9 #[.string s] w fun e w' => e = .returned (.string ⟨(quoted s.data.toList).toArray⟩) ∧ Below w.heap.size w w' := by
  go_enter Try.func9, Try.ntmps9
  go_wp2_with (go_at_call 25; refine (bld_byte w.heap.size w.heap.size [] 34 _ (bld_new w) (by simp) (by simp)).mono ?_)
  rintro e w1 ⟨rfl, hb, hw⟩
  have HB := Aside0.mk hb
  have HW := Aside0.mk (((Below.refl w.heap.size w).alloc (Nat.le_refl _) _).trans hw)
  clear hb hw
  go_wp2_with fail
  go_loopw [9] (fun v wr => ∃ k : Nat, k ≤ s.size ∧ v = .int .i64 (k : Int) ∧ Aside0 (Bld w.heap.size w.heap.size (34 :: quoteBody (s.data.toList.take k)) wr) ∧ Aside0 (Below w.heap.size w wr))
    (fun v _ => s.size - (intOf v).toNat)
  case atStart => exact ⟨0, Nat.zero_le _, rfl, ⟨by simpa [quoteBody] using HB.out⟩, HW⟩
  case round =>
    obtain ⟨k, hk, rfl, hb, hw⟩ := hrel
    have hq := quoteBody_le (s.data.toList.take k)
    have hq2 : (s.data.toList.take k).length ≤ s.size := by simp; have : s.data.size = s.size := rfl; omega
    by_cases hlt : k < s.size
    · have hst := Aside0.mk (take_snoc s k hlt)
      cases hp : isPlain s[k] with
      | true =>
        have hpl := Aside0.mk hp
        go_wp2_with (first | (go_at_call 26; refine (plain_q s[k] _).mono ?_; rintro e w2 ⟨rfl, n, rfl⟩; rw [hp]) | (go_at_call 25; refine (bld_byte w.heap.size w.heap.size _ s[k] _ (bld_drewN hb.out _) (by simp only [List.length_cons]; omega) hw.out.size).mono ?_; rintro e w2 ⟨rfl, hb2, hw2⟩; have HB2 := Aside0.mk hb2; have HW2 := Aside0.mk hw2; clear hb2 hw2))
        go_roundw
        case rel => exact ⟨k + 1, by omega, by go_num, ⟨by rw [hst.out, quoteBody_snoc]; simpa [quoteByte, hpl.out] using HB2.out⟩, ⟨(bel_drewN hw.out _).trans HW2.out⟩⟩
        case measure => simp [intOf]; omega
      | false =>
        have hpl := Aside0.mk hp
        have hc := s[k].toNat_lt
        have hx1 : (0 : Int) ≤ (s[k].toNat : Int) / 16 := by omega
        have hx2 : (s[k].toNat : Int) / 16 < 16 := by omega
        have hx3 : (0 : Int) ≤ (s[k].toNat : Int) % 16 := by omega
        have hx4 : (s[k].toNat : Int) % 16 < 16 := by omega
        go_wp2_with (first | (go_at_call 26; refine (plain_q s[k] _).mono ?_; rintro e w2 ⟨rfl, n, rfl⟩; rw [hp]) | (go_at_call 27; refine (bld_str w.heap.size w.heap.size _ ⟨#[92, 120]⟩ _ (bld_drewN hb.out _) (by simp only [List.length_cons]; show _ + 2 ≤ _; omega) hw.out.size).mono ?_; rintro e w2 ⟨rfl, hb2, hw2⟩; have HB2 := Aside0.mk hb2; have HW2 := Aside0.mk hw2; clear hb2 hw2))
        refine (bld_byte w.heap.size w.heap.size _ _ _ HB2.out (by simp only [List.length_append, List.length_cons, List.length_nil]; omega) (Nat.le_trans hw.out.size HW2.out.size)).mono ?_
        rintro e w3 ⟨rfl, hb3, hw3⟩
        have HB3 := Aside0.mk hb3
        have HW3 := Aside0.mk (((bel_drewN hw.out _).trans HW2.out).trans hw3)
        clear hb3 hw3
        go_wp2_with fail
        refine (bld_byte w.heap.size w.heap.size _ _ _ HB3.out (by simp only [List.length_append, List.length_cons, List.length_nil]; omega) HW3.out.size).mono ?_
        rintro e w4 ⟨rfl, hb4, hw4⟩
        have HB4 := Aside0.mk hb4
        have HW4 := Aside0.mk (HW3.out.trans hw4)
        clear hb4 hw4
        go_wp2_with fail
        go_roundw
        case rel => exact ⟨k + 1, by omega, by go_num, ⟨by rw [hst.out, quoteBody_snoc]; simpa [quoteByte, hpl.out, hexIdx _ (show s[k].toNat / 16 < 16 by omega), hexIdx _ (show s[k].toNat % 16 < 16 by omega)] using HB4.out⟩, HW4⟩
        case measure => simp [intOf]; omega
    · obtain rfl : k = s.size := by omega
      have hkt : s.data.toList.take s.size = s.data.toList := List.take_of_length_le (by simp)
      have HK := Aside0.mk hkt
      clear hkt
      go_wp2_with (first | (go_at_call 25; refine (bld_byte w.heap.size w.heap.size _ 34 _ hb.out (by simp only [List.length_cons]; omega) hw.out.size).mono ?_; rintro e w2 ⟨rfl, hb2, hw2⟩; have HB2 := Aside0.mk hb2; have HW2 := Aside0.mk hw2; clear hb2 hw2) | (go_at_call 28; refine (bld_string w.heap.size w.heap.size _ _ HB2.out (Nat.le_trans hw.out.size HW2.out.size)).mono ?_; rintro e w3 ⟨rfl, hw3⟩))
      go_ret
      exact ⟨by rw [HK.out]; rfl, (hw.out.trans HW2.out).trans hw3⟩
theorem say_Quoted.calls (a0 : ByteArray) (r : ByteArray) (w : World) (h : say_Quoted.f a0 = some r) :
    Calls Try.prog 9 #[.string a0] w fun e w' => e = .returned (.string r) ∧ Below w.heap.size w w' := by
  unfold say_Quoted.f at h
  split at h
  · obtain rfl := Option.some.inj h
    exact Quoted_calls a0 w ‹_›
  · simp at h

end Go.Proofs.Ytokkjnfdfbpphaa.A
namespace Go.Proofs.Ytokkjnfdfbpphaa.A
open Go.RowKit Go.Proofs.YtokkjnfdfbpphaaW.PrintWords Go.Proofs.YtokkjnfdfbpphaaW.PrintLast Go.Proofs.YtokkjnfdfbpphaaW.PrintMore
attribute [local go_sem] max2_int min2_int max_two min_two max_three min_three max_four min_four   -- for this text's walks alone
set_option linter.unusedVariables false
set_option linter.unusedSimpArgs false

/-! ### say_Value: function 13 -/
def say_Value.f (k : Nat) (a0_0 : Int) (a0_1 : Bool) (a0_2 : Int) (a0_3 : Int) (a0_4 : ByteArray) : Option (ByteArray) := if a0_0 = 0 then some ⟨#[110, 117, 108, 108]⟩ else if a0_0 = 1 then some (if a0_1 = true then ⟨#[116, 114, 117, 101]⟩ else ⟨#[102, 97, 108, 115, 101]⟩) else if a0_0 = 2 then say_whole.f k a0_2
  else if a0_0 = 3 then (if 0 ≤ a0_3 ∧ a0_3 < 18446744073709551616 then some ⟨(floatText a0_3.toNat).toArray⟩ else none) else if a0_0 = 4 then say_Quoted.f a0_4 else some ⟨#[110, 111, 110, 101]⟩
theorem say_Value.mono : ∀ a0 a1 a2 a3 a4 k, LeO (say_Value.f k a0 a1 a2 a3 a4) (say_Value.f (k + 1) a0 a1 a2 a3 a4) := by
  intro a0 a1 a2 a3 a4 k
  unfold say_Value.f
  repeat' first
    | (with_reducible exact LeO.refl _)
    | (with_reducible exact LeO.none _)
    | (with_reducible exact say_whole.mono _ _)
    | (with_reducible refine LeO.ite ?_ ?_)
set_option maxRecDepth 100000 in
set_option maxHeartbeats 4000000 in
theorem say_Value.calls (k : Nat) (a0_0 : Int) (a0_1 : Bool) (a0_2 : Int) (a0_3 : Int) (a0_4 : ByteArray) (r : ByteArray) (w : World) (h : say_Value.f k a0_0 a0_1 a0_2 a0_3 a0_4 = some r) :
    Calls Try.prog 13 #[.agg #[.int .i64 a0_0, .bool a0_1, .int .i64 a0_2, .int .u64 a0_3, .string a0_4]] w fun e w' => e = .returned (.string r) ∧ Below w.heap.size w w' := by
  unfold say_Value.f at h
  have HX := Aside0.mk (Bx.start w #[.int .i64 a0_0, .bool a0_1, .int .i64 a0_2, .int .u64 a0_3, .string a0_4] 33)
  obtain ⟨z0, z1, z2, z3, z4, y0, y1, y2, y3, y4⟩ := val5 HX.out.box
  by_cases h0 : a0_0 = 0
  · rw [if_pos h0] at h
    subst h0
    obtain rfl := Option.some.inj h
    go_enter Try.func13, Try.ntmps13
    go_wp2_with fail
    go_ret
    exact ⟨rfl, HX.out.b⟩
  rw [if_neg h0] at h
  have e0 : (a0_0 == 0) = false := by simpa using h0
  clear h0
  by_cases h1 : a0_0 = 1
  · rw [if_pos h1] at h
    subst h1
    obtain rfl := Option.some.inj h
    cases a0_1 with
    | true =>
      go_enter Try.func13, Try.ntmps13
      go_wp2_with fail
      go_ret
      exact ⟨rfl, HX.out.b⟩
    | false =>
      go_enter Try.func13, Try.ntmps13
      go_wp2_with fail
      go_ret
      exact ⟨rfl, HX.out.b⟩
  rw [if_neg h1] at h
  have e1 : (a0_0 == 1) = false := by simpa using h1
  clear h1
  by_cases h2 : a0_0 = 2
  · rw [if_pos h2] at h
    subst h2
    have HR := Aside0.mk h
    clear h
    go_enter Try.func13, Try.ntmps13
    go_wp2_with fail
    refine (say_whole.calls k _ _ _ HR.out).mono ?_
    rintro e w2 ⟨rfl, hb⟩
    replace HX := Aside0.mk (HX.out.below hb)
    clear hb
    go_wp2_with fail
    go_ret
    exact ⟨rfl, HX.out.b⟩
  rw [if_neg h2] at h
  have e2 : (a0_0 == 2) = false := by simpa using h2
  clear h2
  by_cases h3 : a0_0 = 3
  · rw [if_pos h3] at h
    subst h3
    by_cases hr : 0 ≤ a0_3 ∧ a0_3 < 18446744073709551616
    · rw [if_pos hr] at h
      obtain rfl := Option.some.inj h
      obtain ⟨b, rfl⟩ : ∃ b : Nat, a0_3 = (b : Int) := ⟨a0_3.toNat, by omega⟩
      have HR := Aside0.mk hr
      clear hr h
      go_enter Try.func13, Try.ntmps13
      go_wp2_with fail
      go_loopw [3, 4] (fun v3 v4 wr => ∃ j : Nat, j ≤ 16 ∧ v4 = .int .i64 (60 - 4 * (j : Int)) ∧ Aside0 (Kd.R (Kd.int .u8) 5 wr w.heap.size (fun k => k ≠ w.heap.size) v3 (nums (hexTop b j))) ∧ Aside0 (Bx w wr w.heap.size #[.int .i64 3, .bool a0_1, .int .i64 a0_2, .int .u64 (b : Int), .string a0_4] 33)) (fun _ v4 _ => (intOf v4 + 4).toNat)
      case atStart => exact ⟨0, by omega, by go_num, ⟨Kd.R_nil _ _ _ _ _⟩, HX⟩
      case round =>
        clear HX z0 z1 z2 z3 z4 y0 y1 y2 y3 y4
        obtain ⟨j, hj, rfl, HO, HX⟩ := hrel
        obtain ⟨z0, z1, z2, z3, z4, y0, y1, y2, y3, y4⟩ := val5 HX.out.box
        by_cases hlt : j < 16
        · obtain ⟨X, hX⟩ : ∃ X : Nat, (b : Int) / 2 ^ (60 - 4 * j) = (X : Int) := ⟨b / 2 ^ (60 - 4 * j), by simp⟩
          have HXE : Aside0 (X = b / 16 ^ (15 - j)) := ⟨by rw [← hex_shift b j hlt]; have : ((b / 2 ^ (60 - 4 * j) : Nat) : Int) = (X : Int) := by rw [← hX]; simp
                                                           omega⟩
          have HD : Aside0 (nums (hexTop b j) ++ [bt (⟨#[48, 49, 50, 51, 52, 53, 54, 55, 56, 57, 97, 98, 99, 100, 101, 102]⟩ : ByteArray) ((X : Int) % 16)] = nums (hexTop b (j + 1))) := ⟨by
            rw [hexTop_succ, ← nums_snoc, show ((X : Int) % 16) = ((X % 16 : Nat) : Int) by omega, bt_hex _ (Nat.mod_lt _ (by decide)), HXE.out]; rfl⟩
          have hXs : (X : Int) < 18446744073709551616 := by
            have h1 := HR.out.2
            have h2 : X ≤ b := by rw [HXE.out]; exact Nat.div_le_self _ _
            omega
          have hand := u64_and15 (X : Int) (by omega) hXs
          have hx1 := eq_true (show (0 : Int) ≤ (X : Int) % 16 by omega)
          have hx2 := eq_true (show (X : Int) % 16 < (16 : Int) by omega)
          have hL : Aside0 ((nums (hexTop b j)).length = j) := ⟨by simp [nums, hexTop_length]⟩
          have hxb := bt_at (⟨#[48, 49, 50, 51, 52, 53, 54, 55, 56, 57, 97, 98, 99, 100, 101, 102]⟩ : ByteArray) ((X : Int) % 16)
          have HLT := Aside0.mk hlt
          have HJ := Aside0.mk hj
          clear hXs hlt hj
          have d1 : decide (4 * (j : Int) ≤ 60) = true := by have := HLT.out; simp; omega
          have d2 : (0 : Int) ≤ 60 - 4 * (j : Int) := by have := HLT.out; omega
          have d3 : 4 * (j : Int) ≤ 60 := by have := HLT.out; omega
          go_wp2_with (first | ((with_reducible refine gate_builtin (b := .append) (xs := #[.tmp 24, .tmp 31]) rfl ?_); at_builtin; refine Kd.R_append (Kd.int .u8) (w0 := w) w.heap.size rfl (.tmp 24) (.tmp 31) 55 5 (.int .u8 0) 1 rfl Try.underlying55 info5 rfl (by decide) (by omega) u3 (nums (hexTop b j)) (bt (⟨#[48, 49, 50, 51, 52, 53, 54, 55, 56, 57, 97, 98, 99, 100, 101, 102]⟩ : ByteArray) ((X : Int) % 16)) [.int .u8 (bt (⟨#[48, 49, 50, 51, 52, 53, 54, 55, 56, 57, 97, 98, 99, 100, 101, 102]⟩ : ByteArray) ((X : Int) % 16))] (fun k => k ≠ w.heap.size) (fun _ => False) rfl rfl rfl (fun _ hk => hk.elim) ?aF HO.out HX.out.b HX.out.b.size ?aL ?_; (case aF => intro k_ hk; have h1 := blk_lt HX.out.box; omega); (case aL => rw [hL.out]; have := HJ.out; omega); intro v1 w1 ho hb hg hat; have HO2 := Aside0.mk ho; have HB2 := Aside0.mk hb; have HG2 := Aside0.mk hg; clear ho hb hg hat))
          go_roundw
          case rel => exact ⟨j + 1, by have := HLT.out; omega, by go_num, ⟨by rw [← HD.out]; exact HO2.out⟩, ⟨⟨HB2.out, blk_grown HX.out.box HG2.out (Kd.R_ne HO.out HX.out.box (by decide)), Nat.le_refl _⟩⟩⟩
          case measure => have := HLT.out; simp [intOf]; omega
        · obtain rfl : j = 16 := by omega
          have hq : say_Quoted.f ⟨(hex16 b).toArray⟩ = some ⟨(quoted (hex16 b)).toArray⟩ := by
            unfold say_Quoted.f
            have hl : (⟨(hex16 b).toArray⟩ : ByteArray).size = 16 := hexTop_length b 16
            rw [if_pos (by rw [hl]; decide)]
          have HQ := Aside0.mk hq
          clear hq hlt hj
          have HV := Aside0.mk (own_string (P := Try.prog) Try.underlying55 Try.underlying5 Try.underlying9 (Kd.own_of_R HO.out))
          have hcv := HV.out
          rw [show strOfNums (nums (hexTop b 16)) = ⟨(hex16 b).toArray⟩ from strOfNums_nums _] at hcv
          clear HV
          have d1 : decide ((0 : Int) ≤ 60 - 4 * ((16 : Nat) : Int)) = false := by decide
          go_wp2_with fail
          refine (say_Quoted.calls _ _ _ HQ.out).mono ?_
          rintro e w2 ⟨rfl, hb⟩
          replace HX := Aside0.mk (HX.out.below hb)
          clear hb hcv
          have HF : Aside0 ((⟨#[102, 108, 111, 97, 116, 40]⟩ : ByteArray) ++ (⟨(quoted (hex16 b)).toArray⟩ : ByteArray) ++ (⟨#[41]⟩ : ByteArray) = ⟨(floatText b).toArray⟩) := ⟨by
            apply ba_ext; simp [floatText]⟩
          have hq1 : (quoted (hex16 b)).length ≤ 66 := by
            have := quoteBody_le (hex16 b); have h : (hex16 b).length = 16 := hexTop_length b 16
            unfold quoted; simp; omega
          have s0 : (⟨(quoted (hex16 b)).toArray⟩ : ByteArray).size = (quoted (hex16 b)).length := by show Array.size _ = _; simp
          have s1 : (⟨#[102, 108, 111, 97, 116, 40]⟩ : ByteArray).size = 6 := rfl
          have s2 : (⟨#[41]⟩ : ByteArray).size = 1 := rfl
          have c1 : ((⟨#[102, 108, 111, 97, 116, 40]⟩ : ByteArray) ++ (⟨(quoted (hex16 b)).toArray⟩ : ByteArray)).size ≤ 140737488351232 := by rw [ByteArray.size_append]; omega
          have c2 : (⟨(quoted (hex16 b)).toArray⟩ : ByteArray).size ≤ 140737488351232 := by omega
          clear s0 s1 s2 hq1
          generalize (⟨(quoted (hex16 b)).toArray⟩ : ByteArray) = Y at HF c1 c2 ⊢
          go_wp2_with fail
          go_ret
          exact ⟨by show Ending.returned (Value.string ((⟨#[102, 108, 111, 97, 116, 40]⟩ : ByteArray) ++ Y ++ (⟨#[41]⟩ : ByteArray))) = _; rw [HF.out]; rfl, HX.out.b⟩
    · rw [if_neg hr] at h; exact absurd h (by simp)
  rw [if_neg h3] at h
  have e3 : (a0_0 == 3) = false := by simpa using h3
  clear h3
  by_cases h4 : a0_0 = 4
  · rw [if_pos h4] at h
    subst h4
    have HR := Aside0.mk h
    clear h
    go_enter Try.func13, Try.ntmps13
    go_wp2_with fail
    refine (say_Quoted.calls _ _ _ HR.out).mono ?_
    rintro e w2 ⟨rfl, hb⟩
    replace HX := Aside0.mk (HX.out.below hb)
    clear hb
    go_wp2_with fail
    go_ret
    exact ⟨rfl, HX.out.b⟩
  rw [if_neg h4] at h
  have e4 : (a0_0 == 4) = false := by simpa using h4
  clear h4
  obtain rfl := Option.some.inj h
  go_enter Try.func13, Try.ntmps13
  go_wp2_with fail
  go_ret
  exact ⟨rfl, HX.out.b⟩

end Go.Proofs.Ytokkjnfdfbpphaa.A
namespace Go.Proofs.Ytokkjnfdfbpphaa.A
open Go.RowKit Go.Proofs.YtokkjnfdfbpphaaW.PrintWords Go.Proofs.YtokkjnfdfbpphaaW.PrintLast Go.Proofs.YtokkjnfdfbpphaaW.PrintMore
attribute [local go_sem] max2_int min2_int max_two min_two max_three min_three max_four min_four   -- for this text's walks alone
set_option linter.unusedVariables false
set_option linter.unusedSimpArgs false

theorem say_Value_text (x : S33) (k : Nat) (hx : Okv x) (hk : 50 ≤ k) : say_Value.f k x.f0 x.f1 x.f2 x.f3 x.f4 = some ⟨(valText x).toArray⟩ := by
  have ht := hx.t
  unfold say_Value.f valText
  repeat' split
  all_goals first
    | rfl
    | (exact say_whole_int _ _ hx.i0 hx.i1 hk)
    | (unfold say_Quoted.f; rw [if_pos (by omega)])
    | (rename_i h; exact absurd ⟨hx.b0, hx.b1⟩ h)

end Go.Proofs.Ytokkjnfdfbpphaa.A
namespace Go.Proofs.Ytokkjnfdfbpphaa.A
open Go.RowKit Go.Proofs.YtokkjnfdfbpphaaW.PrintWords Go.Proofs.YtokkjnfdfbpphaaW.PrintLast Go.Proofs.YtokkjnfdfbpphaaW.PrintMore
attribute [local go_sem] max2_int min2_int max_two min_two max_three min_three max_four min_four   -- for this text's walks alone
set_option linter.unusedVariables false
set_option linter.unusedSimpArgs false

theorem join_snoc (xs : List (List UInt8)) (y sep : List UInt8) : Lib.join (xs ++ [y]) sep = if xs = [] then y else Lib.join xs sep ++ sep ++ y := by
  cases xs with
  | nil => simp [Lib.join_one]
  | cons x r => rw [if_neg (by simp), List.cons_append, Lib.join_cons, Lib.join_cons]; simp [Lib.joinTail]
theorem join_take_le (xs : List (List UInt8)) (sep : List UInt8) (i : Nat) : (Lib.join (xs.take i) sep).length ≤ (Lib.join xs sep).length := by
  cases xs with
  | nil => simp
  | cons x r =>
    cases i with
    | zero => simp [Lib.join_nil]
    | succ i => rw [List.take_succ_cons, Lib.join_cons, Lib.join_cons, List.length_append, List.length_append]; have := Lib.joinTail_take_le sep r i; omega
def paperHead (p : S42) : List UInt8 := quoted p.f0.data.toList ++ [32] ++ intText p.f1 ++ [32, 40]
def paperTo (p : S42) (i : Nat) : List UInt8 := paperHead p ++ Lib.join ((p.f2.take i).map fieldText) [44, 32]
theorem paperTo_all (p : S42) : paperText p = paperTo p p.f2.length ++ [41] := by unfold paperText paperTo paperHead; rw [List.take_length]
theorem paperTo_le (p : S42) (i : Nat) : (paperTo p i).length ≤ (paperText p).length := by
  have := join_take_le (p.f2.map fieldText) [44, 32] i
  rw [paperTo_all]; unfold paperTo; rw [List.take_length, List.map_take]; simp; omega
theorem paperTo_succ (p : S42) (i : Nat) (h : i < p.f2.length) : paperTo p (i + 1) = paperTo p i ++ (if i = 0 then [] else [44, 32]) ++ fieldText p.f2[i] := by
  unfold paperTo
  rw [List.take_succ_eq_append_getElem h, List.map_append, List.map_singleton, join_snoc]
  by_cases hi : i = 0
  · subst hi; simp [Lib.join_nil]
  · rw [if_neg (by intro e; have := congrArg List.length e; rw [List.length_map, List.length_take, List.length_nil] at this; omega), if_neg hi]; simp
theorem tol (l : List UInt8) : (⟨l.toArray⟩ : ByteArray).size = l.length := by show Array.size _ = _; simp
theorem Bx.bld {w wc w2 : World} {g : Nat} {cs : Array Value} {T : TypeId} (h : Bx w wc g cs T) {B b : Nat} (hb : Below B wc w2) (ho : OtherBlk b wc w2) (hB : w.heap.size ≤ B) (hg : g ≠ b) (hT : T ≠ 5) : Bx w w2 g cs T :=
  ⟨h.b.trans (hb.mono hB), ho g cs T (0, 0) h.box hg hT, h.ge⟩
set_option maxRecDepth 100000 in
set_option maxHeartbeats 4000000 in
theorem paper_calls (p : S42) (A0 : Option Addr) (c0 : Nat) (w : World) (hC : Kd.C k87 w A0 p.f2.length p.f2) (hc : p.f2.length ≤ c0) (hok : Okp p) (hlen : (paperText p).length ≤ 1000000000) :
    Calls Try.prog 59 #[.agg #[.string p.f0, .int .i64 p.f1, .slice A0 p.f2.length c0]] w fun e w' => e = .returned (.string ⟨(paperText p).toArray⟩) ∧ Below w.heap.size w w' := by
  obtain ⟨id, cl, l⟩ := p
  have HR := Aside0.mk hC
  have HOK := Aside0.mk hok
  have HLEN := Aside0.mk hlen
  clear hC hc hok hlen
  have hQ : say_Quoted.f id = some (qba id) := by unfold say_Quoted.f; rw [if_pos (by have := HOK.out.t; simp only at this; omega)]; rfl
  have hW : say_whole.f 50 cl = some ⟨(intText cl).toArray⟩ := say_whole_int cl 50 HOK.out.i0 HOK.out.i1 (by decide)
  have hs1 : (qba id).size ≤ 4000002 := by
    have := quoted_le id.data.toList
    have e := ba_length id
    have := HOK.out.t
    unfold qba; rw [tol]; simp only at this; omega
  have hs2 : (⟨(intText cl).toArray⟩ : ByteArray).size ≤ 21 := by rw [tol]; exact intText_length cl HOK.out.i0 HOK.out.i1
  obtain ⟨Q, hQe⟩ : ∃ Q, qba id = Q := ⟨_, rfl⟩
  obtain ⟨I, hIe⟩ : ∃ I : ByteArray, ⟨(intText cl).toArray⟩ = I := ⟨_, rfl⟩
  rw [hQe] at hQ hs1
  rw [hIe] at hW hs2
  have HQ := Aside0.mk hQ
  have HW := Aside0.mk hW
  have HQE := Aside0.mk hQe
  have HIE := Aside0.mk hIe
  clear hQe hIe hQ hW
  have HX := Aside0.mk ((Bx.start w #[.string id, .int .i64 cl, .slice A0 l.length c0] 42).alloc (.cells #[.pointer none, .slice none 0 0] 57))
  have HB := Aside0.mk (bld_new (w.alloc (.cells #[.string id, .int .i64 cl, .slice A0 l.length c0] 42)))
  obtain ⟨z0, z1, z2, y0, y1, y2⟩ := tok3 HX.out.box
  go_enter Try.func59, Try.ntmps59
  go_wp2_with fail
  obtain ⟨B, hBE⟩ : ∃ B, (w.alloc (.cells #[.string id, .int .i64 cl, .slice A0 l.length c0] 42)).heap.size = B := ⟨_, rfl⟩
  rw [hBE] at HB
  have HBE : Aside0 (B = w.heap.size + 1) := ⟨by rw [← hBE]; simp⟩
  rw [show w.heap.size + 1 = B from HBE.out.symm]
  clear hBE
  have e32 : (⟨#[32]⟩ : ByteArray).size = 1 := rfl
  have f3 : (Q ++ (⟨#[32]⟩ : ByteArray)).size ≤ 5000000 := by rw [ByteArray.size_append]; omega
  have f5 : (Q ++ (⟨#[32]⟩ : ByteArray) ++ I).size ≤ 6000000 := by rw [ByteArray.size_append, ByteArray.size_append]; omega
  have h0 := eq_false (show ¬ 9223372036854775807 < Q.size + 1 by omega)
  have h1 := eq_false (show ¬ 9223372036854775807 ≤ Q.size by omega)
  have h2 := eq_false (show ¬ 9223372036854775807 < (Q ++ (⟨#[32]⟩ : ByteArray)).size + I.size by omega)
  have h3 := eq_false (show ¬ 9223372036854775807 < (Q ++ (⟨#[32]⟩ : ByteArray) ++ I).size + 2 by omega)
  have h4 := eq_false (show ¬ 9223372036854775807 < Q.size + 1 + I.size by omega)
  have h5 := eq_false (show ¬ 9223372036854775807 < Q.size + 1 + I.size + 2 by omega)
  have HLN : Aside0 (([] : List UInt8).length + (Q ++ (⟨#[32]⟩ : ByteArray) ++ I ++ (⟨#[32, 40]⟩ : ByteArray)).size ≤ 140737488355328) := ⟨by
    rw [ByteArray.size_append]; have : (⟨#[32, 40]⟩ : ByteArray).size = 2 := rfl
    simp only [List.length_nil]; omega⟩
  clear e32 hs1 hs2 f3 f5
  replace HX := Aside0.mk HX.out.drew
  replace HB := Aside0.mk (bld_drew HB.out)
  clear z0 z1 z2 y0 y1 y2
  go_region_held3 (fun w' => w'.cell? ⟨w.heap.size, 0, none⟩ = some (.string id) ∧ w'.cell? ⟨w.heap.size, 1, none⟩ = some (.int .i64 cl)) ((exact ⟨(blk_cell HX.out.box 0).trans rfl, (blk_cell HX.out.box 1).trans rfl⟩))
    (first
      | (go_at_call 9; refine (say_Quoted.calls _ _ _ HQ.out).mono ?_; rintro e w2 ⟨rfl, hb⟩; replace HX := Aside0.mk (HX.out.below hb); replace HB := Aside0.mk (bld_keep HB.out hb); clear hb)
      | (go_at_call 31; refine (say_whole.calls 50 _ _ _ HW.out).mono ?_; rintro e w2 ⟨rfl, hb⟩; replace HX := Aside0.mk (HX.out.below hb); replace HB := Aside0.mk (bld_keep HB.out hb); clear hb)
      | (go_at_call 27; refine (bld_str_full B B [] _ _ HB.out HLN.out (by have := bld_lt HB.out; omega)).mono ?_; rintro e w2 ⟨rfl, hb1, hb2, hb3⟩; replace HX := Aside0.mk (HX.out.bld hb2 hb3 (by have := HBE.out; omega) (by have := HBE.out; omega) (by decide)); replace HB := Aside0.mk hb1; clear hb1 hb2 hb3))
  have HT : Aside0 ([] ++ (Q ++ (⟨#[32]⟩ : ByteArray) ++ I ++ (⟨#[32, 40]⟩ : ByteArray)).data.toList = paperTo ⟨id, cl, l⟩ 0) := ⟨by
    rw [← HQE.out, ← HIE.out]; simp [paperTo, paperHead, qba, Lib.join_nil]⟩
  rw [HT.out] at HB
  clear HT HLN h0 h1 h2 h3 h4 h5 HQ HW HQE HIE
  obtain ⟨z0, z1, z2, y0, y1, y2⟩ := tok3 HX.out.box
  go_wp2_with fail
  clear z0 z1 z2 y0 y1 y2
  have hll : l.length ≤ 1000000 := HOK.out.n
  go_loopw [19] (fun v19 wr => ∃ i : Nat, i ≤ l.length ∧ v19 = .int .i64 (i : Int) ∧ Aside0 (Bld B B (paperTo ⟨id, cl, l⟩ i) wr) ∧ Aside0 (Bx w wr w.heap.size #[.string id, .int .i64 cl, .slice A0 l.length c0] 42)) (fun v19 _ => l.length - (intOf v19).toNat)
  case atStart => exact ⟨0, Nat.zero_le _, rfl, HB, HX⟩
  case round =>
    clear HB HX
    obtain ⟨i, hi, rfl, HB, HX⟩ := hrel
    by_cases hlt : i < l.length
    · obtain ⟨ad, rfl, x0, x1, x2, x3, x4, x5⟩ := at_T87 HR.out (i : Int) (by omega) (by omega)
      have hrd : rd_T87 l (i : Int) = l[i] := by simp [rd_T87, List.getD_eq_getElem?_getD, hlt]
      rw [hrd, Int.toNat_natCast] at x0 x1 x2 x3 x4 x5
      obtain ⟨f, hf⟩ : ∃ f, l[i] = f := ⟨_, rfl⟩
      have HFO : Aside0 (f.f0.size ≤ 1000000 ∧ Okv f.f1) := ⟨HOK.out.f f (by rw [← hf]; exact List.getElem_mem hlt)⟩
      have HFT : Aside0 (paperTo ⟨id, cl, l⟩ (i + 1) = paperTo ⟨id, cl, l⟩ i ++ (if i = 0 then [] else [44, 32]) ++ fieldText f) := ⟨by rw [paperTo_succ ⟨id, cl, l⟩ i hlt]; simp only [hf]⟩
      rw [hf] at x0 x1 x2 x3 x4 x5
      clear hrd hf
      have HBW := Aside0.mk HX.out.b
      replace x0 := (HBW.out.cell (World.block_lt_of_cell? w _ x0)).trans x0
      replace x1 := (HBW.out.cell (World.block_lt_of_cell? w _ x1)).trans x1
      replace x2 := (HBW.out.cell (World.block_lt_of_cell? w _ x2)).trans x2
      replace x3 := (HBW.out.cell (World.block_lt_of_cell? w _ x3)).trans x3
      replace x4 := (HBW.out.cell (World.block_lt_of_cell? w _ x4)).trans x4
      replace x5 := (HBW.out.cell (World.block_lt_of_cell? w _ x5)).trans x5
      have HY := Aside0.mk (Bx.next HX.out.b #[.string f.f0, .int .i64 f.f1.f0, .bool f.f1.f1, .int .i64 f.f1.f2, .int .u64 f.f1.f3, .string f.f1.f4] 87)
      have HNE : Aside0 (w.heap.size ≠ wr.heap.size ∧ B < wr.heap.size) := ⟨by have := blk_lt HX.out.box; have := bld_lt HB.out; omega⟩
      replace HX := Aside0.mk (HX.out.alloc (.cells #[.string f.f0, .int .i64 f.f1.f0, .bool f.f1.f1, .int .i64 f.f1.f2, .int .u64 f.f1.f3, .string f.f1.f4] 87))
      replace HB := Aside0.mk (bld_alloc HB.out (.cells #[.string f.f0, .int .i64 f.f1.f0, .bool f.f1.f1, .int .i64 f.f1.f2, .int .u64 f.f1.f3, .string f.f1.f4] 87))
      clear HBW
      have p1 := eq_true (show (0 : Int) ≤ (i : Int) by omega)
      have p2 := eq_true (show (i : Int) < (l.length : Int) by omega)
      have d1 : decide ((i : Int) < (l.length : Int)) = true := by simp; omega
      by_cases hi0 : i = 0
      · subst hi0
        simp only [Nat.zero_mul, show ad.add 0 = ad from by simp [Addr.add]] at x0 x1 x2 x3 x4 x5
        have d0 : decide ((0 : Int) < ((0 : Nat) : Int)) = false := by decide
        go_wp2_with fail
        clear x0 x1 x2 x3 x4 x5 p1 p2 d1 d0
        replace HFT : Aside0 (paperTo ⟨id, cl, l⟩ (0 + 1) = paperTo ⟨id, cl, l⟩ 0 ++ fieldText f) := ⟨by have := HFT.out; simpa using this⟩
        have HQ : Aside0 (say_Quoted.f f.f0 = some (qba f.f0)) := ⟨by unfold say_Quoted.f; rw [if_pos (by have := HFO.out.1; omega)]; rfl⟩
        have HV : Aside0 (say_Value.f 50 f.f1.f0 f.f1.f1 f.f1.f2 f.f1.f3 f.f1.f4 = some ⟨(valText f.f1).toArray⟩) := ⟨say_Value_text f.f1 50 HFO.out.2 (by decide)⟩
        have HTL : Aside0 ((paperTo ⟨id, cl, l⟩ 0).length + (fieldText f).length ≤ 1000000000) := ⟨by
          have h1 := paperTo_le ⟨id, cl, l⟩ (0 + 1)
          have h2 := HLEN.out
          rw [HFT.out] at h1
          simp at h1 ⊢
          omega⟩
        have hs1 : (qba f.f0).size ≤ 1000000000 ∧ (⟨(valText f.f1).toArray⟩ : ByteArray).size ≤ 1000000000 := by
          have := HTL.out; unfold fieldText at this; unfold qba; rw [tol, tol]; simp at this; omega
        have hg1 : (qba f.f0 ++ (⟨#[61]⟩ : ByteArray) ++ (⟨(valText f.f1).toArray⟩ : ByteArray)).data.toList = fieldText f := by simp [qba, fieldText]
        have hg2 : (qba f.f0 ++ (⟨#[61]⟩ : ByteArray) ++ (⟨(valText f.f1).toArray⟩ : ByteArray)).size = (fieldText f).length := by rw [← ba_length, hg1]
        generalize qba f.f0 = Q1 at HQ hs1 hg1 hg2
        generalize (⟨(valText f.f1).toArray⟩ : ByteArray) = V1 at HV hs1 hg1 hg2
        have HGE := Aside0.mk hg1
        have HLN : Aside0 ((paperTo ⟨id, cl, l⟩ 0).length + (Q1 ++ (⟨#[61]⟩ : ByteArray) ++ V1).size ≤ 140737488355328) := ⟨by rw [hg2]; have := HTL.out; omega⟩
        have e61 : (⟨#[61]⟩ : ByteArray).size = 1 := rfl
        have k0 := eq_false (show ¬ 9223372036854775807 < Q1.size + 1 by omega)
        have k1 := eq_false (show ¬ 9223372036854775807 ≤ Q1.size by omega)
        have k2 := eq_false (show ¬ 9223372036854775807 < (Q1 ++ (⟨#[61]⟩ : ByteArray)).size + V1.size by rw [ByteArray.size_append]; omega)
        have k3 := eq_false (show ¬ 9223372036854775807 < Q1.size + 1 + V1.size by omega)
        clear hs1 hg1 hg2 e61
        generalize wr.heap.size = g5 at HY HNE ⊢
        replace HX := Aside0.mk HX.out.drew
        replace HY := Aside0.mk HY.out.drew
        replace HB := Aside0.mk (bld_drew HB.out)
        go_region_held3 (fun w' => w'.cell? ⟨g5, 0, none⟩ = some (.string f.f0) ∧ w'.cell? ⟨g5, 1, none⟩ = some (.int .i64 f.f1.f0) ∧ w'.cell? ⟨g5, 2, none⟩ = some (.bool f.f1.f1) ∧ w'.cell? ⟨g5, 3, none⟩ = some (.int .i64 f.f1.f2) ∧ w'.cell? ⟨g5, 4, none⟩ = some (.int .u64 f.f1.f3) ∧ w'.cell? ⟨g5, 5, none⟩ = some (.string f.f1.f4))
          ((exact ⟨(blk_cell HY.out.box 0).trans rfl, (blk_cell HY.out.box 1).trans rfl, (blk_cell HY.out.box 2).trans rfl, (blk_cell HY.out.box 3).trans rfl, (blk_cell HY.out.box 4).trans rfl, (blk_cell HY.out.box 5).trans rfl⟩))
          (first
            | (go_at_call 9; refine (say_Quoted.calls _ _ _ HQ.out).mono ?_; rintro e w2 ⟨rfl, hb⟩; replace HX := Aside0.mk (HX.out.below hb); replace HY := Aside0.mk (HY.out.below hb); replace HB := Aside0.mk (bld_keep HB.out hb); clear hb)
            | (go_at_call 13; refine (say_Value.calls 50 _ _ _ _ _ _ _ HV.out).mono ?_; rintro e w2 ⟨rfl, hb⟩; replace HX := Aside0.mk (HX.out.below hb); replace HY := Aside0.mk (HY.out.below hb); replace HB := Aside0.mk (bld_keep HB.out hb); clear hb)
            | (go_at_call 27; refine (bld_str_full B B (paperTo ⟨id, cl, l⟩ 0) _ _ HB.out HLN.out (by have := bld_lt HB.out; omega)).mono ?_; rintro e w2 ⟨rfl, hb1, hb2, hb3⟩; replace HX := Aside0.mk (HX.out.bld hb2 hb3 (by have := HBE.out; omega) (by have := HBE.out; omega) (by decide)); replace HY := Aside0.mk (HY.out.bld hb2 hb3 (by have := HBE.out; omega) (by have := HNE.out; omega) (by decide)); replace HB := Aside0.mk hb1; clear hb1 hb2 hb3))
        rw [HGE.out, ← HFT.out] at HB
        clear k0 k1 k2 k3
        go_wp2_with fail
        go_roundw
        case rel => exact ⟨0 + 1, by omega, by go_num, HB, HX⟩
        case measure => simp [intOf]; omega
      · have d0 : decide ((0 : Int) < (i : Int)) = true := by simp; omega
        go_wp2_with fail
        clear x0 x1 x2 x3 x4 x5 p1 p2 d1 d0
        rw [if_neg hi0] at HFT
        have HLP : Aside0 ((paperTo ⟨id, cl, l⟩ i).length + (⟨#[44, 32]⟩ : ByteArray).size ≤ 140737488355328) := ⟨by
          have h1 := paperTo_le ⟨id, cl, l⟩ i
          have h2 := HLEN.out
          have : (⟨#[44, 32]⟩ : ByteArray).size = 2 := rfl
          omega⟩
        refine (bld_str_full B B _ _ _ HB.out HLP.out (by have := bld_lt HB.out; omega)).mono ?_
        rintro e w2 ⟨rfl, hb1, hb2, hb3⟩
        replace HX := Aside0.mk (HX.out.bld hb2 hb3 (by have := HBE.out; omega) (by have := HBE.out; omega) (by decide))
        replace HY := Aside0.mk (HY.out.bld hb2 hb3 (by have := HBE.out; omega) (by have := HNE.out; omega) (by decide))
        replace HB := Aside0.mk hb1
        clear hb1 hb2 hb3 HLP
        rw [show (⟨#[44, 32]⟩ : ByteArray).data.toList = [44, 32] from rfl] at HB
        have hi00 := Aside0.mk hi0
        clear hi0
        go_wp2_with fail
        have HQ : Aside0 (say_Quoted.f f.f0 = some (qba f.f0)) := ⟨by unfold say_Quoted.f; rw [if_pos (by have := HFO.out.1; omega)]; rfl⟩
        have HV : Aside0 (say_Value.f 50 f.f1.f0 f.f1.f1 f.f1.f2 f.f1.f3 f.f1.f4 = some ⟨(valText f.f1).toArray⟩) := ⟨say_Value_text f.f1 50 HFO.out.2 (by decide)⟩
        have HTL : Aside0 ((paperTo ⟨id, cl, l⟩ i ++ [44, 32]).length + (fieldText f).length ≤ 1000000000) := ⟨by
          have h1 := paperTo_le ⟨id, cl, l⟩ (i + 1)
          have h2 := HLEN.out
          rw [HFT.out] at h1
          simp at h1 ⊢
          omega⟩
        have hs1 : (qba f.f0).size ≤ 1000000000 ∧ (⟨(valText f.f1).toArray⟩ : ByteArray).size ≤ 1000000000 := by
          have := HTL.out; unfold fieldText at this; unfold qba; rw [tol, tol]; simp at this; omega
        have hg1 : (qba f.f0 ++ (⟨#[61]⟩ : ByteArray) ++ (⟨(valText f.f1).toArray⟩ : ByteArray)).data.toList = fieldText f := by simp [qba, fieldText]
        have hg2 : (qba f.f0 ++ (⟨#[61]⟩ : ByteArray) ++ (⟨(valText f.f1).toArray⟩ : ByteArray)).size = (fieldText f).length := by rw [← ba_length, hg1]
        generalize qba f.f0 = Q1 at HQ hs1 hg1 hg2
        generalize (⟨(valText f.f1).toArray⟩ : ByteArray) = V1 at HV hs1 hg1 hg2
        have HGE := Aside0.mk hg1
        have HLN : Aside0 ((paperTo ⟨id, cl, l⟩ i ++ [44, 32]).length + (Q1 ++ (⟨#[61]⟩ : ByteArray) ++ V1).size ≤ 140737488355328) := ⟨by rw [hg2]; have := HTL.out; omega⟩
        have e61 : (⟨#[61]⟩ : ByteArray).size = 1 := rfl
        have k0 := eq_false (show ¬ 9223372036854775807 < Q1.size + 1 by omega)
        have k1 := eq_false (show ¬ 9223372036854775807 ≤ Q1.size by omega)
        have k2 := eq_false (show ¬ 9223372036854775807 < (Q1 ++ (⟨#[61]⟩ : ByteArray)).size + V1.size by rw [ByteArray.size_append]; omega)
        have k3 := eq_false (show ¬ 9223372036854775807 < Q1.size + 1 + V1.size by omega)
        clear hs1 hg1 hg2 e61
        generalize wr.heap.size = g5 at HY HNE ⊢
        replace HX := Aside0.mk HX.out.drew
        replace HY := Aside0.mk HY.out.drew
        replace HB := Aside0.mk (bld_drew HB.out)
        go_region_held3 (fun w' => w'.cell? ⟨g5, 0, none⟩ = some (.string f.f0) ∧ w'.cell? ⟨g5, 1, none⟩ = some (.int .i64 f.f1.f0) ∧ w'.cell? ⟨g5, 2, none⟩ = some (.bool f.f1.f1) ∧ w'.cell? ⟨g5, 3, none⟩ = some (.int .i64 f.f1.f2) ∧ w'.cell? ⟨g5, 4, none⟩ = some (.int .u64 f.f1.f3) ∧ w'.cell? ⟨g5, 5, none⟩ = some (.string f.f1.f4))
          ((exact ⟨(blk_cell HY.out.box 0).trans rfl, (blk_cell HY.out.box 1).trans rfl, (blk_cell HY.out.box 2).trans rfl, (blk_cell HY.out.box 3).trans rfl, (blk_cell HY.out.box 4).trans rfl, (blk_cell HY.out.box 5).trans rfl⟩))
          (first
            | (go_at_call 9; refine (say_Quoted.calls _ _ _ HQ.out).mono ?_; rintro e w2 ⟨rfl, hb⟩; replace HX := Aside0.mk (HX.out.below hb); replace HY := Aside0.mk (HY.out.below hb); replace HB := Aside0.mk (bld_keep HB.out hb); clear hb)
            | (go_at_call 13; refine (say_Value.calls 50 _ _ _ _ _ _ _ HV.out).mono ?_; rintro e w2 ⟨rfl, hb⟩; replace HX := Aside0.mk (HX.out.below hb); replace HY := Aside0.mk (HY.out.below hb); replace HB := Aside0.mk (bld_keep HB.out hb); clear hb)
            | (go_at_call 27; refine (bld_str_full B B (paperTo ⟨id, cl, l⟩ i ++ [44, 32]) _ _ HB.out HLN.out (by have := bld_lt HB.out; omega)).mono ?_; rintro e w2 ⟨rfl, hb1, hb2, hb3⟩; replace HX := Aside0.mk (HX.out.bld hb2 hb3 (by have := HBE.out; omega) (by have := HBE.out; omega) (by decide)); replace HY := Aside0.mk (HY.out.bld hb2 hb3 (by have := HBE.out; omega) (by have := HNE.out; omega) (by decide)); replace HB := Aside0.mk hb1; clear hb1 hb2 hb3))
        rw [HGE.out, ← HFT.out] at HB
        clear k0 k1 k2 k3
        go_wp2_with fail
        go_roundw
        case rel => exact ⟨i + 1, by omega, by go_num, HB, HX⟩
        case measure => simp [intOf]; omega
    · obtain rfl : i = l.length := by omega
      have d1 : decide ((l.length : Int) < (l.length : Int)) = false := by simp
      clear hi hlt
      go_wp2_with fail
      refine (bld_string B B _ _ HB.out (by have := bld_lt HB.out; omega)).mono ?_
      rintro e w2 ⟨rfl, hb⟩
      have HE := Aside0.mk (HX.out.b.trans (hb.mono (by have := HBE.out; omega)))
      have HF : Aside0 ((⟨(paperTo ⟨id, cl, l⟩ l.length).toArray⟩ : ByteArray) ++ (⟨#[41]⟩ : ByteArray) = ⟨(paperText ⟨id, cl, l⟩).toArray⟩) := ⟨by rw [paperTo_all]; apply ba_ext; simp⟩
      have c2 : (⟨(paperTo ⟨id, cl, l⟩ l.length).toArray⟩ : ByteArray).size ≤ 140737488351232 := by rw [tol]; have := HLEN.out; have := paperTo_le ⟨id, cl, l⟩ l.length; omega
      clear hb
      generalize (⟨(paperTo ⟨id, cl, l⟩ l.length).toArray⟩ : ByteArray) = Y at HF c2 ⊢
      go_wp2_with fail
      go_ret
      exact ⟨by rw [← HF.out]; rfl, HE.out⟩

end Go.Proofs.Ytokkjnfdfbpphaa.A
namespace Go.Proofs.Ytokkjnfdfbpphaa.A
open Go.RowKit Go.Proofs.YtokkjnfdfbpphaaW.PrintWords Go.Proofs.YtokkjnfdfbpphaaW.PrintLast Go.Proofs.YtokkjnfdfbpphaaW.PrintMore
attribute [local go_sem] max2_int min2_int max_two min_two max_three min_three max_four min_four   -- for this text's walks alone
set_option linter.unusedVariables false
set_option linter.unusedSimpArgs false

set_option maxRecDepth 100000 in
set_option maxHeartbeats 4000000 in
theorem list_calls (A0 : Option Addr) (c0 : Nat) (l : List ByteArray) (w : World) (hC : Kd.C Kd.string w A0 l.length l) (hc : l.length ≤ c0) (hn : l.length ≤ 1000000) (hs : ∀ s ∈ l, s.size ≤ 1000000) (hlen : (namesText l).length ≤ 1000000000) :
    Calls Try.prog 58 #[.slice A0 l.length c0] w fun e w' => e = .returned (.string ⟨(namesText l).toArray⟩) ∧ Below w.heap.size w w' := by
  have HR := Aside0.mk hC
  have HC := Aside0.mk hc
  have HN := Aside0.mk hn
  have HS := Aside0.mk hs
  have HLEN := Aside0.mk hlen
  clear hC hc hn hs hlen
  go_enter Try.func58, Try.ntmps58
  go_wp2_with fail
  go_loopw [3, 8] (fun v3 v8 wr => ∃ i : Nat, i ≤ l.length ∧ v8 = .int .i64 (i : Int) ∧ Aside0 (Kd.R Kd.string 9 wr w.heap.size (fun _ => True) v3 ((l.take i).map qba)) ∧ Aside0 (Below w.heap.size w wr)) (fun _ v8 _ => l.length - (intOf v8).toNat)
  case atStart => exact ⟨0, Nat.zero_le _, rfl, ⟨Kd.R_nil _ _ _ _ _⟩, ⟨Below.refl _ _⟩⟩
  case round =>
    obtain ⟨i, hi, rfl, HO, HB⟩ := hrel
    by_cases hlt : i < l.length
    · obtain ⟨ad, rfl, hx⟩ := Kd.at_string HR.out (i : Int) (by omega) (by omega)
      have hrd : rdOf ByteArray.empty l (i : Int) = l[i] := by simp [rdOf, List.getD_eq_getElem?_getD, hlt]
      rw [hrd, Int.toNat_natCast] at hx
      replace hx := (HB.out.cell (World.block_lt_of_cell? w _ hx)).trans hx
      have HQ : Aside0 (say_Quoted.f l[i] = some (qba l[i])) := ⟨by unfold say_Quoted.f; rw [if_pos (by have := HS.out l[i] (List.getElem_mem hlt); omega)]; rfl⟩
      have HT : Aside0 ((l.take i).map qba ++ [qba l[i]] = (l.take (i + 1)).map qba) := ⟨by rw [List.take_succ_eq_append_getElem hlt, List.map_append]; rfl⟩
      have HL : Aside0 (((l.take i).map qba).length = i) := ⟨by simp; omega⟩
      have HI := Aside0.mk hi
      clear hrd hi
      have p1 := eq_true (show (0 : Int) ≤ (i : Int) by omega)
      have p2 := eq_true (show (i : Int) < (l.length : Int) by omega)
      have d1 : decide ((i : Int) < (l.length : Int)) = true := by simp; omega
      have hw : (i : Int) ≤ 1000000 := by have := HN.out; omega
      go_wp2_with fail
      refine (say_Quoted.calls _ _ _ HQ.out).mono ?_
      rintro e w2 ⟨rfl, hb⟩
      replace HO := Aside0.mk (Kd.R_below HO.out hb)
      replace HB := Aside0.mk (below_step HB.out hb)
      clear hb
      go_wp2_with (first | ((with_reducible refine gate_builtin (b := .append) (xs := #[.tmp 12, .tmp 15]) rfl ?_); at_builtin; refine Kd.R_append Kd.string (w0 := w) w.heap.size rfl (.tmp 12) (.tmp 15) 43 9 (.string ⟨#[]⟩) 16 rfl Try.underlying43 info9 rfl (by decide) (by omega) u3 ((l.take i).map qba) (qba l[i]) [.string (qba l[i])] (fun _ => True) (fun _ => False) rfl rfl rfl (fun _ hk => hk.elim) (fun _ _ => trivial) HO.out HB.out HB.out.size ?aL ?_; (case aL => rw [HL.out]; have := HN.out; omega); intro v1 w3 ho hb hg hat; have HO2 := Aside0.mk ho; have HB2 := Aside0.mk hb; clear ho hb hg hat))
      go_roundw
      case rel => exact ⟨i + 1, by omega, by go_num, ⟨by rw [← HT.out]; exact HO2.out⟩, HB2⟩
      case measure => simp [intOf]; omega
    · obtain rfl : i = l.length := by omega
      have ht : (l.take l.length).map qba = l.map qba := by rw [List.take_length]
      rw [ht] at HO
      have HE : Aside0 (Lib.join ((l.map qba).map (·.data.toList)) [44, 32] = Lib.join (l.map fun s => quoted s.data.toList) [44, 32]) := ⟨by rw [List.map_map]; congr 1⟩
      have HL : Aside0 ((Lib.join (l.map fun s => quoted s.data.toList) [44, 32]).length ≤ 1000000000) := ⟨by have := HLEN.out; unfold namesText at this; simp at this; omega⟩
      obtain ⟨A1, c1, hv⟩ := Kd.R_slice HO.out
      subst hv
      have d1 : decide ((l.length : Int) < (l.length : Int)) = false := by simp
      clear ht hi hlt
      go_wp2_with fail
      refine (join_calls A1 l.length c1 (l.map qba) (by simp) ⟨#[44, 32]⟩ _ (Kd.R_reads' HO.out).2.2 (Kd.R_reads' HO.out).2.1 (by have := HN.out; simp; omega) (by rw [show (⟨#[44, 32]⟩ : ByteArray).data.toList = [44, 32] from rfl, HE.out]; have := HL.out; omega)).mono ?_
      rintro e w2 ⟨rfl, hb⟩
      replace HB := Aside0.mk (below_step HB.out hb)
      clear hb
      rw [show (⟨#[44, 32]⟩ : ByteArray).data.toList = [44, 32] from rfl, HE.out]
      have HF : Aside0 ((⟨#[91]⟩ : ByteArray) ++ (⟨(Lib.join (l.map fun s => quoted s.data.toList) [44, 32]).toArray⟩ : ByteArray) ++ (⟨#[93]⟩ : ByteArray) = ⟨(namesText l).toArray⟩) := ⟨by apply ba_ext; simp [namesText]⟩
      have c1 : ((⟨#[91]⟩ : ByteArray) ++ (⟨(Lib.join (l.map fun s => quoted s.data.toList) [44, 32]).toArray⟩ : ByteArray)).size ≤ 140737488351232 := by
        have := HL.out; rw [ByteArray.size_append]; show 1 + Array.size _ ≤ _; simp; omega
      have c2 : (⟨(Lib.join (l.map fun s => quoted s.data.toList) [44, 32]).toArray⟩ : ByteArray).size ≤ 140737488351232 := by have := HL.out; show Array.size _ ≤ _; simp; omega
      clear HE HL
      generalize (⟨(Lib.join (l.map fun s => quoted s.data.toList) [44, 32]).toArray⟩ : ByteArray) = Y at HF c1 c2 ⊢
      go_wp2_with fail
      go_ret
      exact ⟨by show Ending.returned (Value.string ((⟨#[91]⟩ : ByteArray) ++ Y ++ (⟨#[93]⟩ : ByteArray))) = _; rw [HF.out], HB.out⟩

end Go.Proofs.Ytokkjnfdfbpphaa.A
namespace Go.Proofs.Ytokkjnfdfbpphaa.A
open Go.RowKit Go.Proofs.YtokkjnfdfbpphaaW.PrintWords Go.Proofs.YtokkjnfdfbpphaaW.PrintLast Go.Proofs.YtokkjnfdfbpphaaW.PrintMore
attribute [local go_sem] max2_int min2_int max_two min_two max_three min_three max_four min_four   -- for this text's walks alone
set_option linter.unusedVariables false
set_option linter.unusedSimpArgs false

/-- A step's cells. -/
def cells45n (n0 : Int) (x : S45) (v3 v6 : Value) : Array Value := #[.int .i64 n0, .string x.f1.f0, .int .i64 x.f1.f1, v3, .string x.f2, .string x.f3, v6, .string x.f5, .int .i64 x.f6, .int .i64 x.f7, .int .u64 x.f8, .int .i64 x.f9]
def cells45 (x : S45) (v3 v6 : Value) : Array Value := cells45n x.f0 x v3 v6
theorem quoted_some (s : ByteArray) (h : s.size ≤ 1000000) : say_Quoted.f s = some ⟨(quoted s.data.toList).toArray⟩ := by unfold say_Quoted.f; rw [if_pos (by omega)]
set_option maxRecDepth 100000 in
set_option maxHeartbeats 4000000 in
theorem argp_calls (n0 : Int) (x : S45) (A3 : Option Addr) (c3 : Nat) (A6 : Option Addr) (c6 : Nat) (kind : Int) (w : World) (h3 : Kd.C k87 w A3 x.f1.f2.length x.f1.f2) (l3 : x.f1.f2.length ≤ c3) (h6 : Kd.C Kd.string w A6 x.f4.length x.f4) (l6 : x.f4.length ≤ c6)
    (hok : Oks x) (hk0 : 0 ≤ kind) (hk8 : kind ≤ 8) (hlen : (argText x kind).length ≤ 1000000000) :
    Calls Try.prog 39 #[.agg (cells45n n0 x (.slice A3 x.f1.f2.length c3) (.slice A6 x.f4.length c6)), .int .i64 kind] w fun e w' => e = .returned (.string ⟨(argText x kind).toArray⟩) ∧ Below w.heap.size w w' := by
  have HX := Aside0.mk (Bx.start w (cells45n n0 x (.slice A3 x.f1.f2.length c3) (.slice A6 x.f4.length c6)) 45)
  have HOK := Aside0.mk hok
  have H3 := Aside0.mk (And.intro (Kd.C_below h3 HX.out.b) l3)
  have H6 := Aside0.mk (And.intro (Kd.C_below h6 HX.out.b) l6)
  clear hok h3 l3 h6 l6
  unfold cells45n at HX ⊢
  have hb := HX.out.box
  unfold argText at hlen ⊢
  obtain ⟨z0, z1, z2, z3, z4, z5, z6, z7, z8, z9, z10, z11⟩ := val12 hb
  clear hb
  by_cases k0 : kind = 0
  · subst k0
    rw [if_pos rfl] at hlen ⊢
    have HL := Aside0.mk hlen
    clear hlen hk0 hk8
    have HQ := Aside0.mk (quoted_some x.f2 HOK.out.t2)
    go_enter Try.func39, Try.ntmps39
    go_wp2_with fail
    refine (say_Quoted.calls _ _ _ HQ.out).mono ?_
    rintro e w2 ⟨rfl, hb⟩
    replace HX := Aside0.mk (HX.out.below hb)
    clear hb
    go_wp2_with fail
    go_ret
    exact ⟨rfl, HX.out.b⟩
  rw [if_neg k0] at hlen ⊢
  have e0 : (kind == 0) = false := by simpa using k0
  have K0 := Aside0.mk k0
  clear k0
  by_cases k1 : kind = 1
  · subst k1
    rw [if_pos rfl] at hlen ⊢
    have HL := Aside0.mk hlen
    clear hlen hk0 hk8
    have HQ := Aside0.mk (quoted_some x.f3 HOK.out.t3)
    go_enter Try.func39, Try.ntmps39
    go_wp2_with fail
    refine (say_Quoted.calls _ _ _ HQ.out).mono ?_
    rintro e w2 ⟨rfl, hb⟩
    replace HX := Aside0.mk (HX.out.below hb)
    clear hb
    go_wp2_with fail
    go_ret
    exact ⟨rfl, HX.out.b⟩
  rw [if_neg k1] at hlen ⊢
  have e1 : (kind == 1) = false := by simpa using k1
  have K1 := Aside0.mk k1
  clear k1
  by_cases k2 : kind = 2
  · subst k2
    rw [if_pos rfl] at hlen ⊢
    have HL := Aside0.mk hlen
    clear hlen hk0 hk8
    have HQ := Aside0.mk ((True.intro : True))
    go_enter Try.func39, Try.ntmps39
    go_wp2_with fail
    refine (list_calls A6 c6 x.f4 _ H6.out.1 H6.out.2 HOK.out.n4 HOK.out.n HL.out).mono ?_
    rintro e w2 ⟨rfl, hb⟩
    replace HX := Aside0.mk (HX.out.below hb)
    clear hb
    go_wp2_with fail
    go_ret
    exact ⟨rfl, HX.out.b⟩
  rw [if_neg k2] at hlen ⊢
  have e2 : (kind == 2) = false := by simpa using k2
  have K2 := Aside0.mk k2
  clear k2
  by_cases k3 : kind = 3
  · subst k3
    rw [if_pos rfl] at hlen ⊢
    have HL := Aside0.mk hlen
    clear hlen hk0 hk8
    have HQ := Aside0.mk (say_whole_int x.f6 50 HOK.out.i6 HOK.out.j6 (by decide))
    go_enter Try.func39, Try.ntmps39
    go_wp2_with fail
    refine (say_whole.calls 50 _ _ _ HQ.out).mono ?_
    rintro e w2 ⟨rfl, hb⟩
    replace HX := Aside0.mk (HX.out.below hb)
    clear hb
    go_wp2_with fail
    go_ret
    exact ⟨rfl, HX.out.b⟩
  rw [if_neg k3] at hlen ⊢
  have e3 : (kind == 3) = false := by simpa using k3
  have K3 := Aside0.mk k3
  clear k3
  by_cases k4 : kind = 4
  · subst k4
    rw [if_pos rfl] at hlen ⊢
    have HL := Aside0.mk hlen
    clear hlen hk0 hk8
    have HQ := Aside0.mk (say_whole_int x.f7 50 HOK.out.i7 HOK.out.j7 (by decide))
    go_enter Try.func39, Try.ntmps39
    go_wp2_with fail
    refine (say_whole.calls 50 _ _ _ HQ.out).mono ?_
    rintro e w2 ⟨rfl, hb⟩
    replace HX := Aside0.mk (HX.out.below hb)
    clear hb
    go_wp2_with fail
    go_ret
    exact ⟨rfl, HX.out.b⟩
  rw [if_neg k4] at hlen ⊢
  have e4 : (kind == 4) = false := by simpa using k4
  have K4 := Aside0.mk k4
  clear k4
  by_cases k5 : kind = 5
  · subst k5
    rw [if_pos rfl] at hlen ⊢
    have HL := Aside0.mk hlen
    clear hlen hk0 hk8
    have HQ := Aside0.mk (show say_count.f 50 x.f8 = some ⟨(dec x.f8.toNat).toArray⟩ from by have h := say_count_dec x.f8.toNat 50 (by have := HOK.out.j8; have := HOK.out.i8; omega) (by decide); rwa [Int.toNat_of_nonneg HOK.out.i8] at h)
    go_enter Try.func39, Try.ntmps39
    go_wp2_with fail
    refine (say_count.calls 50 _ _ _ HQ.out).mono ?_
    rintro e w2 ⟨rfl, hb⟩
    replace HX := Aside0.mk (HX.out.below hb)
    clear hb
    go_wp2_with fail
    go_ret
    exact ⟨rfl, HX.out.b⟩
  rw [if_neg k5] at hlen ⊢
  have e5 : (kind == 5) = false := by simpa using k5
  have K5 := Aside0.mk k5
  clear k5
  by_cases k6 : kind = 6
  · subst k6
    rw [if_pos rfl] at hlen ⊢
    have HL := Aside0.mk hlen
    clear hlen hk0 hk8
    have HQ := Aside0.mk (say_whole_int x.f9 50 HOK.out.i9 HOK.out.j9 (by decide))
    go_enter Try.func39, Try.ntmps39
    go_wp2_with fail
    refine (say_whole.calls 50 _ _ _ HQ.out).mono ?_
    rintro e w2 ⟨rfl, hb⟩
    replace HX := Aside0.mk (HX.out.below hb)
    clear hb
    go_wp2_with fail
    go_ret
    exact ⟨rfl, HX.out.b⟩
  rw [if_neg k6] at hlen ⊢
  have e6 : (kind == 6) = false := by simpa using k6
  have K6 := Aside0.mk k6
  clear k6
  by_cases k7 : kind = 7
  · subst k7
    rw [if_pos rfl] at hlen ⊢
    have HL := Aside0.mk hlen
    clear hlen hk0 hk8
    have HQ := Aside0.mk (quoted_some x.f5 HOK.out.t5)
    go_enter Try.func39, Try.ntmps39
    go_wp2_with fail
    refine (say_Quoted.calls _ _ _ HQ.out).mono ?_
    rintro e w2 ⟨rfl, hb⟩
    replace HX := Aside0.mk (HX.out.below hb)
    clear hb
    go_wp2_with fail
    go_ret
    exact ⟨rfl, HX.out.b⟩
  rw [if_neg k7] at hlen ⊢
  have e7 : (kind == 7) = false := by simpa using k7
  have K7 := Aside0.mk k7
  clear k7
  have hk : kind = 8 := by have := K0.out; have := K1.out; have := K2.out; have := K3.out; have := K4.out; have := K5.out; have := K6.out; have := K7.out; omega
  subst hk
  have HL := Aside0.mk hlen
  clear hlen hk0 hk8
  have HQ := Aside0.mk ((True.intro : True))
  go_enter Try.func39, Try.ntmps39
  go_wp2_with fail
  refine (paper_calls x.f1 A3 c3 _ H3.out.1 H3.out.2 HOK.out.p HL.out).mono ?_
  rintro e w2 ⟨rfl, hb⟩
  replace HX := Aside0.mk (HX.out.below hb)
  clear hb
  go_wp2_with fail
  go_ret
  exact ⟨rfl, HX.out.b⟩

end Go.Proofs.Ytokkjnfdfbpphaa.A
namespace Go.Proofs.Ytokkjnfdfbpphaa.A
open Go.RowKit Go.Proofs.YtokkjnfdfbpphaaW.PrintWords Go.Proofs.YtokkjnfdfbpphaaW.PrintLast Go.Proofs.YtokkjnfdfbpphaaW.PrintMore
attribute [local go_sem] max2_int min2_int max_two min_two max_three min_three max_four min_four   -- for this text's walks alone
set_option linter.unusedVariables false
set_option linter.unusedSimpArgs false

/-! ### say_known: function 36 -/
def say_known.f (a0 : Int) : Option (Bool) := if a0 ≥ 1 then (some (decide (a0 ≤ 15))) else (some false)
set_option maxHeartbeats 8000000 in
set_option maxRecDepth 100000 in
theorem say_known.calls (a0 : Int) (r : Bool) (w : World) (h : say_known.f a0 = some r) :
    Calls Try.prog 36 #[.int .i64 a0] w fun e w' => e = .returned (.bool r) ∧ Drawn0 w w' := by
  have H : (if a0 ≥ 1 then (some (decide (a0 ≤ 15))) else (some false)) = some r := h
  clear h
  by_cases c2 : a0 ≥ 1
  · rw [if_pos c2] at H
    have c2b0 : decide (1 ≤ a0) = true := decide_eq_true c2
    clear c2
    obtain rfl := Option.some.inj H
    go_enter Try.func36, Try.ntmps36
    go_wp2
    go_ret
    exact ⟨by first | rfl | (simp; done) | (simp [*]; done), by repeat (first | exact Drawn0.refl _ | apply Drawn0.step)⟩
  · rw [if_neg c2] at H
    have c2b0 : decide (1 ≤ a0) = false := decide_eq_false c2
    clear c2
    obtain rfl := Option.some.inj H
    go_enter Try.func36, Try.ntmps36
    go_wp2
    go_ret
    exact ⟨by first | rfl | (simp; done) | (simp [*]; done), by repeat (first | exact Drawn0.refl _ | apply Drawn0.step)⟩

end Go.Proofs.Ytokkjnfdfbpphaa.A
namespace Go.Proofs.Ytokkjnfdfbpphaa.A
open Go.RowKit Go.Proofs.YtokkjnfdfbpphaaW.PrintWords Go.Proofs.YtokkjnfdfbpphaaW.PrintLast Go.Proofs.YtokkjnfdfbpphaaW.PrintMore
attribute [local go_sem] max2_int min2_int max_two min_two max_three min_three max_four min_four   -- for this text's walks alone
set_option linter.unusedVariables false
set_option linter.unusedSimpArgs false

theorem R_one_string (w : World) (s : ByteArray) (base : Nat) (ok : Nat → Prop) (hb : base ≤ w.heap.size) (hok : ok w.heap.size) : Kd.R Kd.string 9 (w.alloc (.cells #[.string s] 9)) base ok (.slice (some ⟨w.heap.size, 0, none⟩) 1 1) [s] := by
  refine ⟨fun k hk => ?_, [.string s], ?_, ?_⟩
  · have : w.heap.size = k := by simpa [Value.ownBlock] using hk
    subst this; exact hok
  · exact World.ownsRow_lit (base := base) (e := 9) (size := 1) w #[.string s] 1 hb (by simp [maxLen]) rfl
  · refine ⟨rfl, fun j p hj => ?_⟩
    cases j with
    | zero => simp at hj; subst hj; rfl
    | succ j => simp at hj
theorem args_some (k : Nat) (h1 : 1 ≤ k) (h2 : k ≤ 15) : say_args.f 5 (k : Int) = some (argsOf k) := by
  have key : ∀ m : Fin 16, 1 ≤ m.1 → say_args.f 5 (m.1 : Int) = some (argsOf m.1) := by decide
  exact key ⟨k, by omega⟩ h1
theorem argsOf_small (k : Nat) : (argsOf k).length ≤ 3 ∧ ∀ a ∈ argsOf k, 0 ≤ a ∧ a ≤ 8 := by
  unfold argsOf
  repeat' split
  all_goals decide
def printRow (x : S45) (k i : Nat) : List ByteArray := ⟨(wordOf k).toArray⟩ :: ((argsOf k).take i).map fun a => ⟨(argText x a).toArray⟩
theorem printText_join (x : S45) (k : Nat) (h : x.f0 = (k : Int)) (h1 : 1 ≤ k) (h2 : k ≤ 15) : printText x = Lib.join ((printRow x k (argsOf k).length).map (·.data.toList)) [32] ++ [59] := by
  unfold printText printRow
  rw [if_pos (by omega), h, Int.toNat_natCast, List.take_length, List.map_cons, List.map_map]
  rfl
theorem len_le_sum : ∀ (xs : List (List UInt8)) (y : List UInt8), y ∈ xs → y.length ≤ (xs.map (·.length)).sum
  | [], _, h => by simp at h
  | z :: t, y, h => by
    rcases List.mem_cons.1 h with h | h
    · subst h; simp
    · have := len_le_sum t y h; simp; omega
theorem lens_le_join (xs : List (List UInt8)) (sep : List UInt8) (y : List UInt8) (h : y ∈ xs) : y.length ≤ (Lib.join xs sep).length := by
  cases xs with
  | nil => simp at h
  | cons x r =>
    rw [Lib.join_length]
    have : y.length ≤ Lib.lens (x :: r) := by
      unfold Lib.lens
      exact len_le_sum _ _ h
    omega
theorem argText_le (x : S45) (k : Nat) (h : x.f0 = (k : Int)) (h1 : 1 ≤ k) (h2 : k ≤ 15) (a : Int) (ha : a ∈ argsOf k) : (argText x a).length ≤ (printText x).length := by
  unfold printText
  rw [if_pos (by omega), h, Int.toNat_natCast, List.length_append]
  have := lens_le_join (wordOf k :: (argsOf k).map (argText x)) [32] (argText x a) (List.mem_cons_of_mem _ (List.mem_map_of_mem ha))
  omega
set_option maxRecDepth 100000 in
set_option maxHeartbeats 4000000 in
theorem print_calls (x : S45) (A3 : Option Addr) (c3 : Nat) (A6 : Option Addr) (c6 : Nat) (w : World) (h3 : Kd.C k87 w A3 x.f1.f2.length x.f1.f2) (l3 : x.f1.f2.length ≤ c3) (h6 : Kd.C Kd.string w A6 x.f4.length x.f4) (l6 : x.f4.length ≤ c6)
    (hok : Oks x) (hlen : (printText x).length ≤ 1000000000) :
    Calls Try.prog 18 #[.agg (cells45 x (.slice A3 x.f1.f2.length c3) (.slice A6 x.f4.length c6))] w fun e w' => e = .returned (.string ⟨(printText x).toArray⟩) ∧ Below w.heap.size w w' := by
  have HX := Aside0.mk (Bx.start w (cells45 x (.slice A3 x.f1.f2.length c3) (.slice A6 x.f4.length c6)) 45)
  have HOK := Aside0.mk hok
  have H3 := Aside0.mk (And.intro h3 l3)
  have H6 := Aside0.mk (And.intro h6 l6)
  have HL := Aside0.mk hlen
  clear hok h3 l3 h6 l6 hlen
  unfold cells45 cells45n at HX ⊢
  have hb := HX.out.box
  obtain ⟨z0, z1, z2, z3, z4, z5, z6, z7, z8, z9, z10, z11⟩ := val12 hb
  clear hb
  by_cases hk : 1 ≤ x.f0 ∧ x.f0 ≤ 15
  · have HK : Aside0 (say_known.f x.f0 = some true) := ⟨by unfold say_known.f; rw [if_pos hk.1, decide_eq_true hk.2]⟩
    obtain ⟨k, hkk⟩ : ∃ k : Nat, x.f0 = (k : Int) := ⟨x.f0.toNat, by omega⟩
    have h1 : 1 ≤ k := by omega
    have h2 : k ≤ 15 := by omega
    have HKK := Aside0.mk hkk
    have HB12 := Aside0.mk (And.intro h1 h2)
    have HAS := Aside0.mk (args_some k h1 h2)
    have hword : wordL[k]? = some (wordOf k) := by
      unfold wordOf
      rw [List.getD_eq_getElem?_getD, List.getElem?_eq_getElem (show k < wordL.length by show k < 16; omega)]
      rfl
    have HWD := Aside0.mk (fun w => word_at k _ hword w)
    clear hk hkk h1 h2 hword
    rw [HKK.out] at HK HX z0
    rw [HKK.out]
    go_enter Try.func18, Try.ntmps18
    go_wp2_with fail
    refine (say_known.calls _ _ _ HK.out).mono ?_
    rintro e w2 ⟨rfl, hq⟩
    obtain ⟨⟨n, rfl⟩⟩ := hq
    replace HX := Aside0.mk (HX.out.drewN n)
    clear z0 z1 z2 z3 z4 z5 z6 z7 z8 z9 z10 z11
    go_wp2_with fail
    have hwd := HWD.out
    have hwl : (wordOf k).length ≤ 7 := by
      have key : ∀ m : Fin 16, (wordOf m.1).length ≤ 7 := by decide
      exact key ⟨k, by have := HB12.out.2; omega⟩
    generalize World.drewN _ n = W1 at HX ⊢
    replace HX := Aside0.mk HX.out.drew
    go_region_held3 (fun w' => w'.cell? ⟨w.heap.size, 0, none⟩ = some (.int .i64 (k : Int))) ((first | exact (blk_cell HX.out.box 0).trans rfl | exact (blk_cell (HX.out.alloc _).box 0).trans rfl))
      (first | (go_at_call 37; refine (forms_calls _).mono ?_; rintro e w2 ⟨rfl, hb⟩; replace HX := Aside0.mk (HX.out.below hb); clear hb))
    have HO : Aside0 (Kd.R Kd.string 9 (w2.alloc (.cells #[.string ⟨(wordOf k).toArray⟩] 9)) w.heap.size (fun j => j ≠ w.heap.size) (.slice (some ⟨w2.heap.size, 0, none⟩) 1 1) (printRow x k 0)) :=
      ⟨R_one_string w2 _ _ _ HX.out.b.size (fun e => by have := blk_lt HX.out.box; omega)⟩
    replace HX := Aside0.mk (HX.out.alloc (.cells #[.string ⟨(wordOf k).toArray⟩] 9))
    generalize w2.alloc (.cells #[.string ⟨(wordOf k).toArray⟩] 9) = W3 at HO HX ⊢
    have HVL : Aside0 (∃ v : Value, v = .slice (some ⟨w2.heap.size, 0, none⟩) 1 1) := ⟨⟨_, rfl⟩⟩
    obtain ⟨vr, hvr⟩ := HVL.out
    rw [← hvr] at HO ⊢
    clear hvr HVL hwd HK HWD
    obtain ⟨z0, z1, z2, z3, z4, z5, z6, z7, z8, z9, z10, z11⟩ := val12 HX.out.box
    go_wp2_with fail
    refine (say_args.calls 5 _ _ _ HAS.out).mono ?_
    rintro e w4 ⟨v17, rfl, hr, hb⟩
    clear z0 z1 z2 z3 z4 z5 z6 z7 z8 z9 z10 z11
    have HAR : Aside0 (Kd.R (Kd.int .i64) 3 w4 w.heap.size (fun j => True ∧ some j ≠ vr.ownBlock) v17 (argsOf k)) := ⟨Kd.R_lower (Kd.R_mono (Kd.R_bound hr) (fun j hj => ⟨trivial, fun e => by
      have h1 := hj.2.1
      have h2 := (Kd.R_bound HO.out).1 j e.symm
      have := h2.2.2.1
      omega⟩)) HX.out.b.size⟩
    replace HX := Aside0.mk (HX.out.below hb)
    replace HO := Aside0.mk (Kd.R_below HO.out hb)
    obtain ⟨Aa, ca, hv⟩ := Kd.R_slice hr
    subst hv
    clear hr hb
    go_wp2_with fail
    have hn3 := (argsOf_small k).1
    go_loopw [3, 19] (fun v3 v19 wr => ∃ i : Nat, i ≤ (argsOf k).length ∧ v19 = .int .i64 (i : Int) ∧ Aside0 (Kd.R Kd.string 9 wr w.heap.size (fun j => j ≠ w.heap.size) v3 (printRow x k i)) ∧ Aside0 (Kd.R (Kd.int .i64) 3 wr w.heap.size (fun j => True ∧ some j ≠ v3.ownBlock) (.slice Aa (argsOf k).length ca) (argsOf k)) ∧
      Aside0 (Bx w wr w.heap.size #[.int .i64 (k : Int), .string x.f1.f0, .int .i64 x.f1.f1, .slice A3 x.f1.f2.length c3, .string x.f2, .string x.f3, .slice A6 x.f4.length c6, .string x.f5, .int .i64 x.f6, .int .i64 x.f7, .int .u64 x.f8, .int .i64 x.f9] 45)) (fun _ v19 _ => (argsOf k).length - (intOf v19).toNat)
    case atStart => exact ⟨0, Nat.zero_le _, rfl, HO, HAR, HX⟩
    case round =>
      clear HO HAR HX
      obtain ⟨i, hi, rfl, HO, HAR, HX⟩ := hrel
      by_cases hlt : i < (argsOf k).length
      · obtain ⟨ad, rfl, hx⟩ := Kd.at_int (Kd.R_reads' HAR.out).2.2 (i : Int) (by omega) (by omega)
        have hrd : rd (argsOf k) (i : Int) = (argsOf k)[i] := by simp [rd, List.getD_eq_getElem?_getD, hlt]
        have hmem : (argsOf k)[i] ∈ argsOf k := List.getElem_mem hlt
        have HROW : Aside0 (printRow x k i ++ [⟨(argText x (argsOf k)[i]).toArray⟩] = printRow x k (i + 1)) := ⟨by
          unfold printRow; rw [List.take_succ_eq_append_getElem hlt, List.map_append]; rfl⟩
        rw [hrd, Int.toNat_natCast] at hx
        generalize (argsOf k)[i] = a at hx hmem HROW
        have HAA : Aside0 (0 ≤ a ∧ a ≤ 8 ∧ (argText x a).length ≤ 1000000000) := ⟨⟨((argsOf_small k).2 a hmem).1, ((argsOf_small k).2 a hmem).2, Nat.le_trans (argText_le x k HKK.out HB12.out.1 HB12.out.2 a hmem) HL.out⟩⟩
        have HRL : Aside0 ((printRow x k i).length ≤ 4) := ⟨by unfold printRow; simp; omega⟩
        clear hrd hmem
        have p1 := eq_true (show (0 : Int) ≤ (i : Int) by omega)
        have p2 := eq_true (show (i : Int) < ((argsOf k).length : Int) by omega)
        have d1 : decide ((i : Int) < ((argsOf k).length : Int)) = true := by simp; omega
        obtain ⟨z0, z1, z2, z3, z4, z5, z6, z7, z8, z9, z10, z11⟩ := val12 HX.out.box
        go_wp2_with fail
        refine (argp_calls (k : Int) x A3 c3 A6 c6 a _ (Kd.C_below H3.out.1 HX.out.b) H3.out.2 (Kd.C_below H6.out.1 HX.out.b) H6.out.2 HOK.out HAA.out.1 HAA.out.2.1 HAA.out.2.2).mono ?_
        rintro e w5 ⟨rfl, hb⟩
        replace HX := Aside0.mk (HX.out.below hb)
        replace HO := Aside0.mk (Kd.R_below HO.out hb)
        replace HAR := Aside0.mk (Kd.R_below HAR.out hb)
        clear z0 z1 z2 z3 z4 z5 z6 z7 z8 z9 z10 z11 hb hx
        go_wp2_with (first | ((with_reducible refine gate_builtin (b := .append) (xs := #[.tmp 23, .tmp 27]) rfl ?_); at_builtin; refine Kd.R_append Kd.string (w0 := w) w.heap.size rfl (.tmp 23) (.tmp 27) 43 9 (.string ⟨#[]⟩) 16 rfl Try.underlying43 info9 rfl (by decide) (by omega) u3 (printRow x k i) ⟨(argText x a).toArray⟩ [.string ⟨(argText x a).toArray⟩] (fun j => j ≠ w.heap.size) (fun _ => False) rfl rfl rfl (fun _ hk => hk.elim) ?aF HO.out HX.out.b HX.out.b.size ?aL ?_; (case aF => intro j hj e; have := blk_lt HX.out.box; omega); (case aL => have := HRL.out; omega); intro v1 w6 ho hb hg hat; have HO2 := Aside0.mk ho; have HB2 := Aside0.mk hb; have HG2 := Aside0.mk hg; have HAT := Aside0.mk hat; clear ho hb hg hat))
        go_roundw
        case rel => exact ⟨i + 1, by omega, by go_num, ⟨by rw [← HROW.out]; exact HO2.out⟩, ⟨Kd.R_after HAR.out HG2.out HAT.out⟩, ⟨⟨HB2.out, blk_grown HX.out.box HG2.out (Kd.R_ne HO.out HX.out.box (by decide)), Nat.le_refl _⟩⟩⟩
        case measure => simp [intOf]; omega
      · obtain rfl : i = (argsOf k).length := by omega
        have d1 : decide (((argsOf k).length : Int) < ((argsOf k).length : Int)) = false := by simp
        have HJ := Aside0.mk (printText_join x k HKK.out HB12.out.1 HB12.out.2)
        have HJL : Aside0 ((Lib.join ((printRow x k (argsOf k).length).map (·.data.toList)) [32]).length ≤ 1000000000) := ⟨by have h1 := HJ.out; have h2 := HL.out; rw [h1] at h2; simp at h2; simp; omega⟩
        obtain ⟨A1, c1, hv⟩ := Kd.R_slice HO.out
        subst hv
        have HRL : Aside0 ((printRow x k (argsOf k).length).length ≤ 4) := ⟨by unfold printRow; simp; omega⟩
        clear hi hlt
        go_wp2_with fail
        refine (join_calls A1 _ c1 (printRow x k (argsOf k).length) rfl ⟨#[32]⟩ _ (Kd.R_reads' HO.out).2.2 (Kd.R_reads' HO.out).2.1 (by have := HRL.out; omega) (by rw [show (⟨#[32]⟩ : ByteArray).data.toList = [32] from rfl]; have := HJL.out; omega)).mono ?_
        rintro e w5 ⟨rfl, hb⟩
        replace HX := Aside0.mk (HX.out.below hb)
        clear hb
        rw [show (⟨#[32]⟩ : ByteArray).data.toList = [32] from rfl]
        have HF : Aside0 ((⟨(Lib.join ((printRow x k (argsOf k).length).map (·.data.toList)) [32]).toArray⟩ : ByteArray) ++ (⟨#[59]⟩ : ByteArray) = ⟨(printText x).toArray⟩) := ⟨by rw [HJ.out]; apply ba_ext; simp⟩
        have c2 : (⟨(Lib.join ((printRow x k (argsOf k).length).map (·.data.toList)) [32]).toArray⟩ : ByteArray).size ≤ 140737488351232 := by rw [tol]; have := HJL.out; omega
        clear HJ HJL
        generalize (⟨(Lib.join ((printRow x k (argsOf k).length).map (·.data.toList)) [32]).toArray⟩ : ByteArray) = Y at HF c2 ⊢
        go_wp2_with fail
        go_ret
        exact ⟨by rw [← HF.out]; rfl, HX.out.b⟩
  · have hkn : say_known.f x.f0 = some false := by
      unfold say_known.f
      by_cases h1 : x.f0 ≥ 1
      · rw [if_pos h1, decide_eq_false (by omega)]
      · rw [if_neg h1]
    have HK := Aside0.mk hkn
    have HT : Aside0 (printText x = []) := ⟨by unfold printText; rw [if_neg hk]⟩
    clear hk hkn
    go_enter Try.func18, Try.ntmps18
    go_wp2_with fail
    refine (say_known.calls _ _ _ HK.out).mono ?_
    rintro e w2 ⟨rfl, hq⟩
    obtain ⟨⟨n, rfl⟩⟩ := hq
    replace HX := Aside0.mk (HX.out.drewN n)
    go_wp2_with fail
    go_ret
    exact ⟨by rw [HT.out]; rfl, HX.out.b⟩

end Go.Proofs.Ytokkjnfdfbpphaa.A
namespace Go.Proofs.Ytokkjnfdfbpphaa.A
open Go.RowKit Go.Proofs.YtokkjnfdfbpphaaW.PrintWords Go.Proofs.YtokkjnfdfbpphaaW.PrintLast Go.Proofs.YtokkjnfdfbpphaaW.PrintMore
attribute [local go_sem] max2_int min2_int max_two min_two max_three min_three max_four min_four   -- for this text's walks alone
set_option linter.unusedVariables false
set_option linter.unusedSimpArgs false

def allText (l : List S45) : List UInt8 := (l.map fun x => printText x ++ [10]).flatten
theorem allText_succ (l : List S45) (i : Nat) (h : i < l.length) : allText (l.take (i + 1)) = allText (l.take i) ++ (printText l[i] ++ [10]) := by
  unfold allText; rw [List.take_succ_eq_append_getElem h, List.map_append, List.flatten_append]; simp
theorem allText_take (l : List S45) (i : Nat) : (allText (l.take i)).length ≤ (allText l).length := by
  have e : allText l = allText (l.take i) ++ allText (l.drop i) := by unfold allText; rw [← List.flatten_append, ← List.map_append, List.take_append_drop]
  rw [e, List.length_append]; omega
theorem printText_ne (x : S45) (h : 1 ≤ x.f0 ∧ x.f0 ≤ 15) : printText x ≠ [] := by unfold printText; rw [if_pos h]; simp
set_option maxRecDepth 100000 in
set_option maxHeartbeats 4000000 in
theorem printAll_calls (l : List S45) (A0 : Option Addr) (c0 : Nat) (w : World) (hC : Kd.C k45 w A0 l.length l) (hc : l.length ≤ c0) (hn : l.length ≤ 1000000) (hv : ∀ x ∈ l, Oks x ∧ 1 ≤ x.f0 ∧ x.f0 ≤ 15) (hlen : (allText l).length ≤ 1000000000) :
    Calls Try.prog 21 #[.slice A0 l.length c0] w fun e w' => e = .returned (.string ⟨(allText l).toArray⟩) ∧ Below w.heap.size w w' := by
  have HR := Aside0.mk hC
  have HV := Aside0.mk hv
  have HLEN := Aside0.mk hlen
  have HB := Aside0.mk (bld_new w)
  have HW := Aside0.mk (below_alloc (Below.refl w.heap.size w) (.cells #[.pointer none, .slice none 0 0] 57))
  clear hC hc hv hlen
  go_enter Try.func21, Try.ntmps21
  go_wp2_with fail
  go_loopw [9] (fun v9 wr => ∃ i : Nat, i ≤ l.length ∧ v9 = .int .i64 (i : Int) ∧ Aside0 (Bld w.heap.size w.heap.size (allText (l.take i)) wr) ∧ Aside0 (Below w.heap.size w wr)) (fun v9 _ => l.length - (intOf v9).toNat)
  case atStart => exact ⟨0, Nat.zero_le _, rfl, HB, HW⟩
  case round =>
    clear HB HW
    obtain ⟨i, hi, rfl, HB, HW⟩ := hrel
    by_cases hlt : i < l.length
    · obtain ⟨ad, A3, c3, A6, c6, rfl, x0, x1, x2, x3, x4, x5, x6, x7, x8, x9, x10, x11, g3, k3, g6, k6⟩ := at_T45 HR.out (i : Int) (by omega) (by omega)
      have hrd : rd_T45 l (i : Int) = l[i] := by simp [rd_T45, List.getD_eq_getElem?_getD, hlt]
      have HST := Aside0.mk (allText_succ l i hlt)
      have HX := Aside0.mk (HV.out l[i] (List.getElem_mem hlt))
      have HTK := Aside0.mk (allText_take l (i + 1))
      rw [hrd, Int.toNat_natCast] at x0 x1 x2 x3 x4 x5 x6 x7 x8 x9 x10 x11
      rw [hrd] at g3 k3 g6 k6
      generalize l[i] = x at HST HX x0 x1 x2 x3 x4 x5 x6 x7 x8 x9 x10 x11 g3 k3 g6 k6
      have H3 := Aside0.mk (And.intro k3 g3)
      have H6 := Aside0.mk (And.intro k6 g6)
      have HPL : Aside0 ((printText x).length + 1 + (allText (l.take i)).length ≤ 1000000000) := ⟨by
        have h1 := HTK.out; have h2 := HLEN.out
        rw [HST.out] at h1; simp at h1; omega⟩
      clear hrd k3 g3 k6 g6 HTK
      replace x0 := (HW.out.cell (World.block_lt_of_cell? w _ x0)).trans x0
      replace x1 := (HW.out.cell (World.block_lt_of_cell? w _ x1)).trans x1
      replace x2 := (HW.out.cell (World.block_lt_of_cell? w _ x2)).trans x2
      replace x3 := (HW.out.cell (World.block_lt_of_cell? w _ x3)).trans x3
      replace x4 := (HW.out.cell (World.block_lt_of_cell? w _ x4)).trans x4
      replace x5 := (HW.out.cell (World.block_lt_of_cell? w _ x5)).trans x5
      replace x6 := (HW.out.cell (World.block_lt_of_cell? w _ x6)).trans x6
      replace x7 := (HW.out.cell (World.block_lt_of_cell? w _ x7)).trans x7
      replace x8 := (HW.out.cell (World.block_lt_of_cell? w _ x8)).trans x8
      replace x9 := (HW.out.cell (World.block_lt_of_cell? w _ x9)).trans x9
      replace x10 := (HW.out.cell (World.block_lt_of_cell? w _ x10)).trans x10
      replace x11 := (HW.out.cell (World.block_lt_of_cell? w _ x11)).trans x11
      have p1 := eq_true (show (0 : Int) ≤ (i : Int) by omega)
      have p2 := eq_true (show (i : Int) < (l.length : Int) by omega)
      have d1 : decide ((i : Int) < (l.length : Int)) = true := by simp; omega
      have HY := Aside0.mk (Bx.next HW.out (cells45 x (.slice A3 x.f1.f2.length c3) (.slice A6 x.f4.length c6)) 45)
      replace HB := Aside0.mk (bld_alloc HB.out (.cells (cells45 x (.slice A3 x.f1.f2.length c3) (.slice A6 x.f4.length c6)) 45))
      unfold cells45 cells45n at HY HB
      obtain ⟨z0, z1, z2, z3, z4, z5, z6, z7, z8, z9, z10, z11⟩ := val12 HY.out.box
      go_wp2_with fail
      refine (print_calls x A3 c3 A6 c6 _ (Kd.C_below H3.out.1 HY.out.b) H3.out.2 (Kd.C_below H6.out.1 HY.out.b) H6.out.2 HX.out.1 (by have := HPL.out; omega)).mono ?_
      rintro e w2 ⟨rfl, hb⟩
      replace HB := Aside0.mk (bld_keep HB.out hb)
      replace HW := Aside0.mk (below_step HY.out.b hb)
      clear hb z0 z1 z2 z3 z4 z5 z6 z7 z8 z9 z10 z11 x0 x1 x2 x3 x4 x5 x6 x7 x8 x9 x10 x11
      have hYe : (⟨(printText x).toArray⟩ : ByteArray).data.toList = printText x := rfl
      have hYs : (⟨(printText x).toArray⟩ : ByteArray).size ≤ 1000000000 := by rw [tol]; have := HPL.out; omega
      have hY1 : (⟨(printText x).toArray⟩ : ByteArray).toList ≠ [] := by rw [Lib.toList_data]; exact printText_ne x HX.out.2
      generalize (⟨(printText x).toArray⟩ : ByteArray) = Y at hYe hYs hY1 ⊢
      have HYE : Aside0 ((Y ++ (⟨#[10]⟩ : ByteArray)).data.toList = printText x ++ [10]) := ⟨by rw [← hYe]; simp⟩
      have HLN : Aside0 ((allText (l.take i)).length + (Y ++ (⟨#[10]⟩ : ByteArray)).size ≤ 140737488355328) := ⟨by
        have e10 : (⟨#[10]⟩ : ByteArray).size = 1 := rfl
        have := HPL.out; rw [ByteArray.size_append]; have h : (printText x).length = Y.size := by rw [← hYe, ba_length]
        omega⟩
      have e1 : (Y.toList == ([] : List UInt8)) = false := by simpa using hY1
      have e2 : Y.toList.isEmpty = false := by simpa using hY1
      clear hYe
      go_wp2_with fail
      refine (bld_str_full w.heap.size w.heap.size _ _ _ HB.out HLN.out HW.out.size).mono ?_
      rintro e w3 ⟨rfl, hb1, hb2, _⟩
      replace HB := Aside0.mk hb1
      replace HW := Aside0.mk (HW.out.trans hb2)
      clear hb1 hb2
      rw [HYE.out, ← HST.out] at HB
      go_wp2_with fail
      go_roundw
      case rel => exact ⟨i + 1, by omega, by go_num, HB, HW⟩
      case measure => simp [intOf]; omega
    · obtain rfl : i = l.length := by omega
      have d1 : decide ((l.length : Int) < (l.length : Int)) = false := by simp
      rw [List.take_length] at HB
      clear hi hlt
      go_wp2_with fail
      refine (bld_string _ _ _ _ HB.out HW.out.size).mono ?_
      rintro e w2 ⟨rfl, hb⟩
      have HE := Aside0.mk (HW.out.trans hb)
      clear hb
      go_wp2_with fail
      go_ret
      exact ⟨rfl, HE.out⟩

end Go.Proofs.Ytokkjnfdfbpphaa.A
namespace Go.Proofs.Ytokkjnfdfbpphaa.A
open Go.RowKit Go.Proofs.YtokkjnfdfbpphaaW.PrintWords Go.Proofs.YtokkjnfdfbpphaaW.PrintLast Go.Proofs.YtokkjnfdfbpphaaW.PrintMore
attribute [local go_sem] max2_int min2_int max_two min_two max_three min_three max_four min_four   -- for this text's walks alone
set_option linter.unusedVariables false
set_option linter.unusedSimpArgs false

/-! ### value_nan: function 34 -/
def value_nan.f (a0 : Int) : Option (Bool) := some (decide ((Go.bits .and .u64 a0 9223372036854775807) > 9218868437227405312))
set_option maxHeartbeats 8000000 in
set_option maxRecDepth 100000 in
theorem value_nan.calls (a0 : Int) (r : Bool) (w : World) (h : value_nan.f a0 = some r) :
    Calls Try.prog 34 #[.int .u64 a0] w fun e w' => e = .returned (.bool r) ∧ Drawn0 w w' := by
  have H : (some (decide ((Go.bits .and .u64 a0 9223372036854775807) > 9218868437227405312))) = some r := h
  clear h
  obtain rfl := Option.some.inj H
  go_enter Try.func34, Try.ntmps34
  go_wp2
  go_ret
  exact ⟨by first | rfl | (simp; done) | (simp [*]; done), by repeat (first | exact Drawn0.refl _ | apply Drawn0.step)⟩

end Go.Proofs.Ytokkjnfdfbpphaa.A
namespace Go.Proofs.Ytokkjnfdfbpphaa.A
open Go.RowKit Go.Proofs.YtokkjnfdfbpphaaW.PrintWords Go.Proofs.YtokkjnfdfbpphaaW.PrintLast Go.Proofs.YtokkjnfdfbpphaaW.PrintMore
attribute [local go_sem] max2_int min2_int max_two min_two max_three min_three max_four min_four   -- for this text's walks alone
set_option linter.unusedVariables false
set_option linter.unusedSimpArgs false

/-! ### value_Clean: function 16 -/
def zero33 : Array Value := #[.int .i64 0, .bool false, .int .i64 0, .int .u64 0, .string ⟨#[]⟩]
/-- What Clean answers. -/
def cleanF (a0_0 : Int) (a0_1 : Bool) (a0_2 a0_3 : Int) (a0_4 : ByteArray) : Int × Bool × Int × Int × ByteArray :=
  (a0_0, (if a0_0 = 1 then a0_1 else false), (if a0_0 = 2 then a0_2 else 0), (if a0_0 = 3 then (if Go.bits .and .u64 a0_3 9223372036854775807 > 9218868437227405312 then 9221120237041090561 else a0_3) else 0), (if a0_0 = 4 then a0_4 else ⟨#[]⟩))
def value_Clean.f (a0_0 : Int) (a0_1 : Bool) (a0_2 : Int) (a0_3 : Int) (a0_4 : ByteArray) : Option (Int × Bool × Int × Int × ByteArray) := some (cleanF a0_0 a0_1 a0_2 a0_3 a0_4)
theorem blk_mid (w : World) (a : Obj) (cs : Array Value) (T : TypeId) (c : Obj) : (((w.alloc a).alloc (.cells cs T)).alloc c).heap[w.heap.size + 1]? = some (.cells cs T (0, 0)) := by
  have := blk_alloc (blk_new (w.alloc a) (.cells cs T)) c; simpa using this
theorem below_three (w : World) (a b c : Obj) : Below w.heap.size w (((w.alloc a).alloc b).alloc c) := below_alloc (below_alloc (below_alloc (Below.refl _ _) _) _) _
set_option maxRecDepth 100000 in
set_option maxHeartbeats 4000000 in
theorem value_Clean.calls (a0_0 : Int) (a0_1 : Bool) (a0_2 : Int) (a0_3 : Int) (a0_4 : ByteArray) (r1 : Int) (r2 : Bool) (r3 : Int) (r4 : Int) (r5 : ByteArray) (w : World) (h : value_Clean.f a0_0 a0_1 a0_2 a0_3 a0_4 = some (r1, r2, r3, r4, r5)) :
    Calls Try.prog 16 #[.agg #[.int .i64 a0_0, .bool a0_1, .int .i64 a0_2, .int .u64 a0_3, .string a0_4]] w fun e w' => e = .returned (.agg #[.int .i64 r1, .bool r2, .int .i64 r3, .int .u64 r4, .string r5]) ∧ Below w.heap.size w w' := by
  unfold value_Clean.f at h
  have hq := Option.some.inj h
  clear h
  unfold cleanF at hq
  simp only [Prod.mk.injEq] at hq
  obtain ⟨rfl, h1, h2, h3, h4⟩ := hq
  by_cases k3 : a0_0 = 3
  · subst k3
    rw [if_neg (by decide)] at h1 h2 h4
    rw [if_pos rfl] at h3
    subst h1 h2 h4
    by_cases hn : Go.bits .and .u64 a0_3 9223372036854775807 > 9218868437227405312
    · rw [if_pos hn] at h3
      have HN : Aside0 (value_nan.f a0_3 = some true) := ⟨by unfold value_nan.f; rw [decide_eq_true hn]⟩
      clear hn
      go_enter Try.func16, Try.ntmps16
      go_wp2_with fail
      refine (value_nan.calls _ _ _ HN.out).mono ?_
      rintro e w2 ⟨rfl, hq⟩
      obtain ⟨⟨n, rfl⟩⟩ := hq
      go_wp2_with fail
      have HY0 : Bx w _ (w.heap.size + 1) zero33 33 := ⟨(pw_below_drewN (below_three w (.cells #[.int .i64 3, .bool a0_1, .int .i64 a0_2, .int .u64 a0_3, .string a0_4] 33) (.cells zero33 33) (.cells #[.int .i64 3, .bool false, .int .i64 0, .int .u64 a0_3, .string ⟨#[]⟩] 33)) n), (blk_drewN (blk_mid _ _ _ _ _) n), (Nat.le_succ _)⟩
      have HY := HY0.far (g2 := w.heap.size + 1 + 1) (by omega) (by omega) 3 (.int .u64 r4)
      have HY2 := HY.five (.int .i64 3) (.bool false) (.int .i64 0) (.int .u64 r4) (.string ⟨#[]⟩)
      exact bodyPost_ret (results_cell_row rfl _ _ (w.heap.size + 1) 33 _ (0, 0) _ rfl HY2.box Try.underlying33 rfl (by kernel_rfl)) rfl ⟨rfl, HY2.b⟩
    · rw [if_neg hn] at h3
      obtain rfl := h3
      have HN : Aside0 (value_nan.f a0_3 = some false) := ⟨by unfold value_nan.f; rw [decide_eq_false hn]⟩
      clear hn
      go_enter Try.func16, Try.ntmps16
      go_wp2_with fail
      refine (value_nan.calls _ _ _ HN.out).mono ?_
      rintro e w2 ⟨rfl, hq⟩
      obtain ⟨⟨n, rfl⟩⟩ := hq
      go_wp2_with fail
      have HY : Bx w _ (w.heap.size + 1) zero33 33 := ⟨(pw_below_drewN (below_three w (.cells #[.int .i64 3, .bool a0_1, .int .i64 a0_2, .int .u64 a0_3, .string a0_4] 33) (.cells zero33 33) (.cells #[.int .i64 3, .bool false, .int .i64 0, .int .u64 a0_3, .string ⟨#[]⟩] 33)) n), (blk_drewN (blk_mid _ _ _ _ _) n), (Nat.le_succ _)⟩
      have HY2 := HY.five (.int .i64 3) (.bool false) (.int .i64 0) (.int .u64 a0_3) (.string ⟨#[]⟩)
      exact bodyPost_ret (results_cell_row rfl _ _ (w.heap.size + 1) 33 _ (0, 0) _ rfl HY2.box Try.underlying33 rfl (by kernel_rfl)) rfl ⟨rfl, HY2.b⟩
  · rw [if_neg k3] at h3
    subst h3
    have e3 : (a0_0 == 3) = false := by simpa using k3
    have HE := Aside0.mk (And.intro h1 (And.intro h2 h4))
    clear k3 h1 h2 h4
    go_enter Try.func16, Try.ntmps16
    go_wp2_with fail
    all_goals
      refine bodyPost_ret (results_cell_row rfl _ _ (w.heap.size + 1) 33 _ (0, 0) _ rfl (blk_mid _ _ _ _ _) Try.underlying33 rfl (by kernel_rfl)) rfl ⟨?_, below_three _ _ _ _⟩
      obtain ⟨h1, h2, h4⟩ := HE.out
      simp_all

end Go.Proofs.Ytokkjnfdfbpphaa.A
namespace Go.Proofs.Ytokkjnfdfbpphaa.A
open Go.RowKit Go.Proofs.YtokkjnfdfbpphaaW.PrintWords Go.Proofs.YtokkjnfdfbpphaaW.PrintLast Go.Proofs.YtokkjnfdfbpphaaW.PrintMore
attribute [local go_sem] max2_int min2_int max_two min_two max_three min_three max_four min_four   -- for this text's walks alone
set_option linter.unusedVariables false
set_option linter.unusedSimpArgs false

def cleanS (x : S45) : S45 where
  f0 := x.f0
  f1 := if x.f0 = 1 then x.f1 else z42
  f2 := if x.f0 = 2 ∨ x.f0 = 4 ∨ x.f0 = 3 ∨ x.f0 = 5 ∨ x.f0 = 6 ∨ x.f0 = 14 then x.f2 else ⟨#[]⟩
  f3 := if x.f0 = 3 ∨ x.f0 = 5 ∨ x.f0 = 6 then x.f3 else ⟨#[]⟩
  f4 := if x.f0 = 14 then x.f4 else []
  f5 := if x.f0 = 1 then x.f5 else ⟨#[]⟩
  f6 := if x.f0 = 8 ∨ x.f0 = 12 ∨ x.f0 = 14 ∨ x.f0 = 15 then x.f6 else 0
  f7 := if x.f0 = 15 then x.f7 else 0
  f8 := if x.f0 = 11 ∨ x.f0 = 12 then x.f8 else 0
  f9 := if x.f0 = 11 ∨ x.f0 = 12 then x.f9 else 0
set_option maxRecDepth 100000 in
set_option maxHeartbeats 4000000 in
theorem clean_calls (x : S45) (A3 : Option Addr) (n3 c3 : Nat) (A6 : Option Addr) (n6 c6 : Nat) (w : World) :
    Calls Try.prog 22 #[.agg (cells45 x (.slice A3 n3 c3) (.slice A6 n6 c6))] w fun e w' => e = .returned (.agg (cells45 (cleanS x) (if x.f0 = 1 then .slice A3 n3 c3 else .slice none 0 0) (if x.f0 = 14 then .slice A6 n6 c6 else .slice none 0 0))) ∧ Below w.heap.size w w' := by
  obtain ⟨k, p, a, b, ns, d, n, m, kp, te⟩ := x
  unfold cells45 cells45n
  by_cases hk : 1 ≤ k ∧ k ≤ 15
  · have hc : k = 1 ∨ k = 2 ∨ k = 3 ∨ k = 4 ∨ k = 5 ∨ k = 6 ∨ k = 7 ∨ k = 8 ∨ k = 9 ∨ k = 10 ∨ k = 11 ∨ k = 12 ∨ k = 13 ∨ k = 14 ∨ k = 15 := by omega
    clear hk
    rcases hc with rfl | rfl | rfl | rfl | rfl | rfl | rfl | rfl | rfl | rfl | rfl | rfl | rfl | rfl | rfl
    all_goals
      go_enter Try.func22, Try.ntmps22
      go_wp2_with fail
      exact bodyPost_ret (results_cell_row rfl _ _ (w.heap.size + 1) 45 _ (0, 0) _ rfl (blk_mid _ _ _ _ _) Try.underlying45 rfl (by kernel_rfl)) rfl ⟨rfl, below_three _ _ _ _⟩
  · have e1 : (k == 1) = false := by simp; omega
    have e2 : (k == 2) = false := by simp; omega
    have e3 : (k == 3) = false := by simp; omega
    have e4 : (k == 4) = false := by simp; omega
    have e5 : (k == 5) = false := by simp; omega
    have e6 : (k == 6) = false := by simp; omega
    have e8 : (k == 8) = false := by simp; omega
    have e11 : (k == 11) = false := by simp; omega
    have e12 : (k == 12) = false := by simp; omega
    have e14 : (k == 14) = false := by simp; omega
    have e15 : (k == 15) = false := by simp; omega
    have q1 : ¬ k = 1 := by omega
    have q2 : ¬ (k = 2 ∨ k = 4 ∨ k = 3 ∨ k = 5 ∨ k = 6 ∨ k = 14) := by omega
    have q3 : ¬ (k = 3 ∨ k = 5 ∨ k = 6) := by omega
    have q4 : ¬ k = 14 := by omega
    have q5 : ¬ (k = 8 ∨ k = 12 ∨ k = 14 ∨ k = 15) := by omega
    have q6 : ¬ k = 15 := by omega
    have q7 : ¬ (k = 11 ∨ k = 12) := by omega
    simp only [cleanS, if_neg q1, if_neg q2, if_neg q3, if_neg q4, if_neg q5, if_neg q6, if_neg q7]
    clear q1 q2 q3 q4 q5 q6 q7 hk
    go_enter Try.func22, Try.ntmps22
    go_wp2_with fail
    exact bodyPost_ret (results_cell_row rfl _ _ (w.heap.size + 1) 45 _ (0, 0) _ rfl (blk_mid _ _ _ _ _) Try.underlying45 rfl (by kernel_rfl)) rfl ⟨rfl, below_three _ _ _ _⟩
def CleanPost (x : S45) (w : World) (e : Ending) (w' : World) : Prop := ∃ B3 d3 B6 d6, e = .returned (.agg (cells45 x (.slice B3 x.f1.f2.length d3) (.slice B6 x.f4.length d6))) ∧ Kd.C k87 w' B3 x.f1.f2.length x.f1.f2 ∧ Kd.C Kd.string w' B6 x.f4.length x.f4 ∧ Below w.heap.size w w'
theorem clean_post (x : S45) (A3 : Option Addr) (c3 : Nat) (A6 : Option Addr) (c6 : Nat) (w : World) (h3 : Kd.C k87 w A3 x.f1.f2.length x.f1.f2) (h6 : Kd.C Kd.string w A6 x.f4.length x.f4) :
    Calls Try.prog 22 #[.agg (cells45 x (.slice A3 x.f1.f2.length c3) (.slice A6 x.f4.length c6))] w fun e w' => CleanPost (cleanS x) w e w' := by
  refine (clean_calls x A3 _ c3 A6 _ c6 w).mono ?_
  rintro e w' ⟨rfl, hb⟩
  have e3 : ∃ B3 d3, (if x.f0 = 1 then (.slice A3 x.f1.f2.length c3 : Value) else .slice none 0 0) = .slice B3 (cleanS x).f1.f2.length d3 ∧ Kd.C k87 w' B3 (cleanS x).f1.f2.length (cleanS x).f1.f2 := by
    by_cases h : x.f0 = 1
    · exact ⟨A3, c3, by simp [cleanS, h], by simp only [cleanS, if_pos h]; exact Kd.C_below h3 hb⟩
    · exact ⟨none, 0, by simp [cleanS, h, z42], by simp only [cleanS, if_neg h]; exact Kd.C_nil _ _⟩
  have e6 : ∃ B6 d6, (if x.f0 = 14 then (.slice A6 x.f4.length c6 : Value) else .slice none 0 0) = .slice B6 (cleanS x).f4.length d6 ∧ Kd.C Kd.string w' B6 (cleanS x).f4.length (cleanS x).f4 := by
    by_cases h : x.f0 = 14
    · exact ⟨A6, c6, by simp [cleanS, h], by simp only [cleanS, if_pos h]; exact Kd.C_below h6 hb⟩
    · exact ⟨none, 0, by simp [cleanS, h], by simp only [cleanS, if_neg h]; exact Kd.C_nil _ _⟩
  obtain ⟨B3, d3, e3, k3⟩ := e3
  obtain ⟨B6, d6, e6, k6⟩ := e6
  exact ⟨B3, d3, B6, d6, by rw [e3, e6], k3, k6, hb⟩
theorem clean_self (x : S45) (hcl : cleanS x = x) (A3 : Option Addr) (c3 : Nat) (A6 : Option Addr) (c6 : Nat) (w : World) (h3 : Kd.C k87 w A3 x.f1.f2.length x.f1.f2) (h6 : Kd.C Kd.string w A6 x.f4.length x.f4) :
    Calls Try.prog 22 #[.agg (cells45 x (.slice A3 x.f1.f2.length c3) (.slice A6 x.f4.length c6))] w fun e w' => CleanPost x w e w' := by
  have := clean_post x A3 c3 A6 c6 w h3 h6
  rwa [hcl] at this
/-- An element's cells. -/
def El45 (w : World) (p : Addr) (x : S45) (v3 v6 : Value) : Prop :=
  w.cell? p = some (.int .i64 x.f0) ∧ w.cell? ⟨p.block, p.off + 1, none⟩ = some (.string x.f1.f0) ∧ w.cell? ⟨p.block, p.off + 2, none⟩ = some (.int .i64 x.f1.f1) ∧ w.cell? ⟨p.block, p.off + 3, none⟩ = some v3 ∧ w.cell? ⟨p.block, p.off + 4, none⟩ = some (.string x.f2) ∧ w.cell? ⟨p.block, p.off + 5, none⟩ = some (.string x.f3) ∧
  w.cell? ⟨p.block, p.off + 6, none⟩ = some v6 ∧ w.cell? ⟨p.block, p.off + 7, none⟩ = some (.string x.f5) ∧ w.cell? ⟨p.block, p.off + 8, none⟩ = some (.int .i64 x.f6) ∧ w.cell? ⟨p.block, p.off + 9, none⟩ = some (.int .i64 x.f7) ∧ w.cell? ⟨p.block, p.off + 10, none⟩ = some (.int .u64 x.f8) ∧ w.cell? ⟨p.block, p.off + 11, none⟩ = some (.int .i64 x.f9)
theorem El45.below {w w1 : World} {p : Addr} {x : S45} {v3 v6 : Value} (h : El45 w p x v3 v6) (hb : Below w.heap.size w w1) : El45 w1 p x v3 v6 := by
  have one : ∀ {q : Addr} {u : Value}, w.cell? q = some u → w1.cell? q = some u := fun hq => (hb.cell (World.block_lt_of_cell? w _ hq)).trans hq
  obtain ⟨a0, a1, a2, a3, a4, a5, a6, a7, a8, a9, a10, a11⟩ := h
  exact ⟨one a0, one a1, one a2, one a3, one a4, one a5, one a6, one a7, one a8, one a9, one a10, one a11⟩

end Go.Proofs.Ytokkjnfdfbpphaa.A
namespace Go.Proofs.Ytokkjnfdfbpphaa.A
open Go.RowKit Go.Proofs.YtokkjnfdfbpphaaW.PrintWords Go.Proofs.YtokkjnfdfbpphaaW.PrintLast Go.Proofs.YtokkjnfdfbpphaaW.PrintMore
attribute [local go_sem] max2_int min2_int max_two min_two max_three min_three max_four min_four   -- for this text's walks alone
set_option linter.unusedVariables false
set_option linter.unusedSimpArgs false

theorem eqA33 (d : Nat) (w : World) (x0 y0 : Int) (x1 y1 : Bool) (x2 y2 : Int) (x3 y3 : Int) (x4 y4 : ByteArray) :
    (Op.equalIn (d + 2) 33 (.agg #[.int .i64 x0, .bool x1, .int .i64 x2, .int .u64 x3, .string x4]) (.agg #[.int .i64 y0, .bool y1, .int .i64 y2, .int .u64 y3, .string y4])).run Try.prog w = .ok (x0 == y0 && (x1 == y1 && (x2 == y2 && (x3 == y3 && (x4.toList == y4.toList))))) w := by
  refine eqA_of Try.underlying33 (by kernel_rfl) ?_
  refine eqf_cons (by rfl) (by go_simp; rfl) (by go_simp; rfl) (by go_simp) ?_
  refine eqf_cons (by rfl) (by go_simp; rfl) (by go_simp; rfl) (by go_simp) ?_
  refine eqf_cons (by rfl) (by go_simp; rfl) (by go_simp; rfl) (by go_simp) ?_
  refine eqf_cons (by rfl) (by go_simp; rfl) (by go_simp; rfl) (by go_simp) ?_
  exact eqf_last (by rfl) (by go_simp; rfl) (by go_simp; rfl) (by go_simp)
end Go.Proofs.Ytokkjnfdfbpphaa.A
namespace Go.Proofs.Ytokkjnfdfbpphaa.A
open Go.RowKit Go.Proofs.YtokkjnfdfbpphaaW.PrintWords Go.Proofs.YtokkjnfdfbpphaaW.PrintLast Go.Proofs.YtokkjnfdfbpphaaW.PrintMore
attribute [local go_sem] max2_int min2_int max_two min_two max_three min_three max_four min_four   -- for this text's walks alone
set_option linter.unusedVariables false
set_option linter.unusedSimpArgs false

theorem eqA87 (d : Nat) (w : World) (x0 y0 : ByteArray) (x1 y1 : Int) (x2 y2 : Bool) (x3 y3 : Int) (x4 y4 : Int) (x5 y5 : ByteArray) :
    (Op.equalIn (d + 3) 87 (.agg #[.string x0, .int .i64 x1, .bool x2, .int .i64 x3, .int .u64 x4, .string x5]) (.agg #[.string y0, .int .i64 y1, .bool y2, .int .i64 y3, .int .u64 y4, .string y5])).run Try.prog w = .ok (x0.toList == y0.toList && ((x1 == y1 && (x2 == y2 && (x3 == y3 && (x4 == y4 && (x5.toList == y5.toList))))))) w := by
  refine eqA_of Try.underlying87 (by kernel_rfl) ?_
  refine eqf_cons (by rfl) (by go_simp; rfl) (by go_simp; rfl) (by go_simp) ?_
  exact eqf_last (by rfl) (by go_simp) (by go_simp) (eqA33 (d + 0) w _ _ _ _ _ _ _ _ _ _)
end Go.Proofs.Ytokkjnfdfbpphaa.A
namespace Go.Proofs.Ytokkjnfdfbpphaa.A
open Go.RowKit Go.Proofs.YtokkjnfdfbpphaaW.PrintWords Go.Proofs.YtokkjnfdfbpphaaW.PrintLast Go.Proofs.YtokkjnfdfbpphaaW.PrintMore
attribute [local go_sem] max2_int min2_int max_two min_two max_three min_three max_four min_four   -- for this text's walks alone
set_option linter.unusedVariables false
set_option linter.unusedSimpArgs false

set_option maxRecDepth 100000 in
set_option maxHeartbeats 8000000 in
theorem same_calls (x : S45) (A3 : Option Addr) (c3 : Nat) (A6 : Option Addr) (c6 : Nat) (B3 : Option Addr) (d3 : Nat) (B6 : Option Addr) (d6 : Nat) (w : World)
    (h3 : Kd.C k87 w A3 x.f1.f2.length x.f1.f2) (h6 : Kd.C Kd.string w A6 x.f4.length x.f4) (g3 : Kd.C k87 w B3 x.f1.f2.length x.f1.f2) (g6 : Kd.C Kd.string w B6 x.f4.length x.f4) (hn3 : x.f1.f2.length ≤ 1000000) (hn6 : x.f4.length ≤ 1000000) :
    Calls Try.prog 20 #[.agg (cells45 x (.slice A3 x.f1.f2.length c3) (.slice A6 x.f4.length c6)), .agg (cells45 x (.slice B3 x.f1.f2.length d3) (.slice B6 x.f4.length d6))] w fun e w' => e = .returned (.bool true) ∧ Below w.heap.size w w' := by
  have HX := Aside0.mk ((Bx.start w (cells45 x (.slice A3 x.f1.f2.length c3) (.slice A6 x.f4.length c6)) 45).alloc (.cells (cells45 x (.slice B3 x.f1.f2.length d3) (.slice B6 x.f4.length d6)) 45))
  have HY := Aside0.mk (Bx.next (Bx.start w (cells45 x (.slice A3 x.f1.f2.length c3) (.slice A6 x.f4.length c6)) 45).b (cells45 x (.slice B3 x.f1.f2.length d3) (.slice B6 x.f4.length d6)) 45)
  have H3 := Aside0.mk h3
  have H6 := Aside0.mk h6
  have G3 := Aside0.mk g3
  have G6 := Aside0.mk g6
  clear h3 h6 g3 g6
  unfold cells45 cells45n at HX HY ⊢
  have e1 : (x.f2.toList != x.f2.toList) = false := by simp
  have e2 : (x.f3.toList != x.f3.toList) = false := by simp
  have e3 : (x.f5.toList != x.f5.toList) = false := by simp
  have e4 : (x.f1.f0.toList != x.f1.f0.toList) = false := by simp
  obtain ⟨z0, z1, z2, z3, z4, z5, z6, z7, z8, z9, z10, z11⟩ := val12 HX.out.box
  obtain ⟨y0, y1, y2, y3, y4, y5, y6, y7, y8, y9, y10, y11⟩ := val12 HY.out.box
  go_enter Try.func20, Try.ntmps20
  go_wp2_with fail
  clear z0 z1 z2 z3 z4 z5 z6 z7 z8 z9 z10 z11 y0 y1 y2 y3 y4 y5 y6 y7 y8 y9 y10 y11
  obtain ⟨gx, hgx⟩ : ∃ g, g = w.heap.size := ⟨_, rfl⟩
  obtain ⟨gy, hgy⟩ : ∃ g, (w.alloc (.cells #[.int .i64 x.f0, .string x.f1.f0, .int .i64 x.f1.f1, .slice A3 x.f1.f2.length c3, .string x.f2, .string x.f3, .slice A6 x.f4.length c6, .string x.f5, .int .i64 x.f6, .int .i64 x.f7, .int .u64 x.f8, .int .i64 x.f9] 45)).heap.size = g := ⟨_, rfl⟩
  rw [hgy] at HY
  have HGY : Aside0 (gy = w.heap.size + 1) := ⟨by rw [← hgy]; simp⟩
  rw [show w.heap.size + 1 = gy from HGY.out.symm]
  clear hgy e1 e2 e3 e4 hgx gx
  go_loopw [5] (fun v5 wr => ∃ i : Nat, i ≤ x.f4.length ∧ v5 = .int .i64 (i : Int) ∧ Aside0 (Bx w wr w.heap.size #[.int .i64 x.f0, .string x.f1.f0, .int .i64 x.f1.f1, .slice A3 x.f1.f2.length c3, .string x.f2, .string x.f3, .slice A6 x.f4.length c6, .string x.f5, .int .i64 x.f6, .int .i64 x.f7, .int .u64 x.f8, .int .i64 x.f9] 45) ∧ Aside0 (Bx w wr gy #[.int .i64 x.f0, .string x.f1.f0, .int .i64 x.f1.f1, .slice B3 x.f1.f2.length d3, .string x.f2, .string x.f3, .slice B6 x.f4.length d6, .string x.f5, .int .i64 x.f6, .int .i64 x.f7, .int .u64 x.f8, .int .i64 x.f9] 45)) (fun v5 _ => x.f4.length - (intOf v5).toNat)
  case atStart => exact ⟨0, Nat.zero_le _, rfl, HX, HY⟩
  case round =>
    clear HX HY
    obtain ⟨i, hi, rfl, HX, HY⟩ := hrel
    obtain ⟨z0, z1, z2, z3, z4, z5, z6, z7, z8, z9, z10, z11⟩ := val12 HX.out.box
    obtain ⟨y0, y1, y2, y3, y4, y5, y6, y7, y8, y9, y10, y11⟩ := val12 HY.out.box
    by_cases hlt : i < x.f4.length
    · obtain ⟨ad, rfl, hx⟩ := Kd.at_string (Kd.C_below H6.out HX.out.b) (i : Int) (by omega) (by omega)
      obtain ⟨bd, rfl, hy⟩ := Kd.at_string (Kd.C_below G6.out HX.out.b) (i : Int) (by omega) (by omega)
      rw [Int.toNat_natCast] at hx hy
      generalize rdOf ByteArray.empty x.f4 (i : Int) = s at hx hy
      have hss : (s.toList != s.toList) = false := by simp
      have p1 := eq_true (show (0 : Int) ≤ (i : Int) by omega)
      have p2 := eq_true (show (i : Int) < (x.f4.length : Int) by omega)
      have d1 : decide ((i : Int) < (x.f4.length : Int)) = true := by simp; omega
      go_wp2_with fail
      go_quiet (fail)
      replace HX := Aside0.mk (HX.out.drewN nq)
      replace HY := Aside0.mk (HY.out.drewN nq)
      clear z0 z1 z2 z3 z4 z5 z6 z7 z8 z9 z10 z11 y0 y1 y2 y3 y4 y5 y6 y7 y8 y9 y10 y11 hx hy
      go_wp2_with fail
      go_roundw
      case rel => exact ⟨i + 1, by omega, by go_num, HX, HY⟩
      case measure => simp [intOf]; omega
    · obtain rfl : i = x.f4.length := by omega
      have d1 : decide ((x.f4.length : Int) < (x.f4.length : Int)) = false := by simp
      clear hi hlt
      go_wp2_with fail
      clear z0 z1 z2 z3 z4 z5 z6 z7 z8 z9 z10 z11 y0 y1 y2 y3 y4 y5 y6 y7 y8 y9 y10 y11
      go_loopw [6] (fun v6 wr => ∃ i : Nat, i ≤ x.f1.f2.length ∧ v6 = .int .i64 (i : Int) ∧ Aside0 (Bx w wr w.heap.size #[.int .i64 x.f0, .string x.f1.f0, .int .i64 x.f1.f1, .slice A3 x.f1.f2.length c3, .string x.f2, .string x.f3, .slice A6 x.f4.length c6, .string x.f5, .int .i64 x.f6, .int .i64 x.f7, .int .u64 x.f8, .int .i64 x.f9] 45) ∧ Aside0 (Bx w wr gy #[.int .i64 x.f0, .string x.f1.f0, .int .i64 x.f1.f1, .slice B3 x.f1.f2.length d3, .string x.f2, .string x.f3, .slice B6 x.f4.length d6, .string x.f5, .int .i64 x.f6, .int .i64 x.f7, .int .u64 x.f8, .int .i64 x.f9] 45)) (fun v6 _ => x.f1.f2.length - (intOf v6).toNat)
      case atStart => exact ⟨0, Nat.zero_le _, rfl, HX, HY⟩
      case round =>
        clear HX HY
        obtain ⟨i, hi, rfl, HX, HY⟩ := hrel
        obtain ⟨z0, z1, z2, z3, z4, z5, z6, z7, z8, z9, z10, z11⟩ := val12 HX.out.box
        obtain ⟨y0, y1, y2, y3, y4, y5, y6, y7, y8, y9, y10, y11⟩ := val12 HY.out.box
        by_cases hlt : i < x.f1.f2.length
        · obtain ⟨ad, rfl, hx0, hx1, hx2, hx3, hx4, hx5⟩ := at_T87 (Kd.C_below H3.out HX.out.b) (i : Int) (by omega) (by omega)
          obtain ⟨bd, rfl, hy0, hy1, hy2, hy3, hy4, hy5⟩ := at_T87 (Kd.C_below G3.out HX.out.b) (i : Int) (by omega) (by omega)
          rw [Int.toNat_natCast] at hx0 hx1 hx2 hx3 hx4 hx5 hy0 hy1 hy2 hy3 hy4 hy5
          generalize rd_T87 x.f1.f2 (i : Int) = f at hx0 hx1 hx2 hx3 hx4 hx5 hy0 hy1 hy2 hy3 hy4 hy5
          have p1 := eq_true (show (0 : Int) ≤ (i : Int) by omega)
          have p2 := eq_true (show (i : Int) < (x.f1.f2.length : Int) by omega)
          have d1 : decide ((i : Int) < (x.f1.f2.length : Int)) = true := by simp; omega
          have heq : ∀ (d : Nat) (w : World), (Op.equalIn (d + 3) 87 (.agg #[.string f.f0, .int .i64 f.f1.f0, .bool f.f1.f1, .int .i64 f.f1.f2, .int .u64 f.f1.f3, .string f.f1.f4]) (.agg #[.string f.f0, .int .i64 f.f1.f0, .bool f.f1.f1, .int .i64 f.f1.f2, .int .u64 f.f1.f3, .string f.f1.f4])).run Try.prog w = .ok true w := fun d w => by rw [eqA87]; simp
          go_wp2_with fail
          go_quiet (fail)
          replace HX := Aside0.mk (HX.out.drewN nq)
          replace HY := Aside0.mk (HY.out.drewN nq)
          clear z0 z1 z2 z3 z4 z5 z6 z7 z8 z9 z10 z11 y0 y1 y2 y3 y4 y5 y6 y7 y8 y9 y10 y11 hx0 hx1 hx2 hx3 hx4 hx5 hy0 hy1 hy2 hy3 hy4 hy5 heq
          go_wp2_with fail
          go_roundw
          case rel => exact ⟨i + 1, by omega, by go_num, HX, HY⟩
          case measure => simp [intOf]; omega
        · obtain rfl : i = x.f1.f2.length := by omega
          have d1 : decide ((x.f1.f2.length : Int) < (x.f1.f2.length : Int)) = false := by simp
          clear hi hlt
          go_wp2_with fail
          go_ret
          exact ⟨rfl, HX.out.b⟩

end Go.Proofs.Ytokkjnfdfbpphaa.A
namespace Go.Proofs.Ytokkjnfdfbpphaa.A
open Go.RowKit Go.Proofs.YtokkjnfdfbpphaaW.PrintWords Go.Proofs.YtokkjnfdfbpphaaW.PrintLast Go.Proofs.YtokkjnfdfbpphaaW.PrintMore
attribute [local go_sem] max2_int min2_int max_two min_two max_three min_three max_four min_four   -- for this text's walks alone
set_option linter.unusedVariables false
set_option linter.unusedSimpArgs false

/-! ### say_parser_step: function 41 -/
def say_parser_step.f (k : Nat) (s0_0 : List (S28)) (s0_1 : Int) (s0_2 : Int) (s0_3 : Int) : Option (Int × ByteArray × Int × (List (S87)) × ByteArray × ByteArray × List ByteArray × ByteArray × Int × Int × Int × Int × Int × Int × Int) := (stepF k s0_0 s0_1 s0_2 s0_3).bind fun q => some (q.1.f0, q.1.f1.f0, q.1.f1.f1, q.1.f1.f2, q.1.f2, q.1.f3, q.1.f4, q.1.f5, q.1.f6, q.1.f7, q.1.f8, q.1.f9, q.2.1, q.2.2.1, q.2.2.2)
theorem say_parser_step.mono : ∀ a0 a1 a2 a3 k, LeO (say_parser_step.f k a0 a1 a2 a3) (say_parser_step.f (k + 1) a0 a1 a2 a3) := by
  intro a0 a1 a2 a3 k
  unfold say_parser_step.f
  exact LeO.bind (stepF_mono _ _ _ _ _) fun _ => LeO.refl _
def StepPost (w0 w w' : World) (g : Nat) (s0 : List S28) (q : S45 × Int × Int × Int) (e : Ending) : Prop :=
  ∃ v3 v6 : Value, e = .returned (.agg #[.int .i64 q.1.f0, .string q.1.f1.f0, .int .i64 q.1.f1.f1, v3, .string q.1.f2, .string q.1.f3, v6, .string q.1.f5, .int .i64 q.1.f6, .int .i64 q.1.f7, .int .u64 q.1.f8, .int .i64 q.1.f9]) ∧
    Kd.R k87 87 w' w.heap.size (fun _ => True) v3 q.1.f1.f2 ∧ Kd.R Kd.string 9 w' w.heap.size (fun _ => True) v6 q.1.f4 ∧ IsS74 w0 w' g s0 q.2.1 q.2.2.1 q.2.2.2 ∧ Below w0.heap.size w0 w' ∧ KeepBut w w' g none
set_option maxRecDepth 100000 in
set_option maxHeartbeats 4000000 in
theorem step_calls (k g : Nat) (s0 : List S28) (s1 s2 s3 : Int) (q : S45 × Int × Int × Int) (w0 w : World) (hI : IsS74 w0 w g s0 s1 s2 s3) (hB : Below w0.heap.size w0 w) (h : stepF k s0 s1 s2 s3 = some q) :
    Calls Try.prog 41 #[.pointer (some ⟨g, 0, none⟩)] w fun e w' => StepPost w0 w w' g s0 q e := by
  have HF := Aside0.mk (Fr.start hI hB #[.int .i64 0, .string ⟨#[]⟩, .int .i64 0, .slice none 0 0, .string ⟨#[]⟩, .string ⟨#[]⟩, .slice none 0 0, .string ⟨#[]⟩, .int .i64 0, .int .i64 0, .int .u64 0, .int .i64 0] 45)
  have HG := Aside0.mk hI.lt
  clear hI hB
  obtain ⟨⟨t, t1, t2, t3⟩, ht, h⟩ := Option.bind_eq_some_iff.mp h
  have HT := Aside0.mk ht
  have H := Aside0.mk h
  clear ht h
  obtain ⟨A0, c0, hc0, hc1, hc2, hc3, hz1, hz3, hC⟩ := HF.out.facts
  clear hC
  go_enter Try.func41, Try.ntmps41
  go_wp2_with fail
  refine (say_parser_take.calls g s0 s1 s2 s3 0 _ _ _ _ w0 _ HF.out.i HF.out.b HT.out).mono ?_
  rintro e w2 ⟨rfl, hi, hb, hk⟩
  replace HF : Aside0 (Fr w0 w w2 g s0 t1 t2 t3 w.heap.size zero45 45) := Aside0.mk (HF.out.call hi hb hk)
  clear hi hb hk HT hc0 hc1 hc2 hc3 hz1 hz3
  go_wp2_with fail
  refine (forms_calls _).mono ?_
  rintro e w3 ⟨rfl, hb⟩
  replace HF := Aside0.mk (HF.out.quiet hb)
  clear hb
  have HV : Aside0 (wordV = wordV) := ⟨rfl⟩
  go_wp2_with fail
  go_loopg [17] 17 (fun kq v17 wr => ∃ (n : Int) (i : Nat), v17 = .int .i64 n ∧ Aside0 (n = (i : Int) ∧ i + kq = 17 ∧ i ≤ 16 ∧ kindFrom t.data.toList i (wordL.drop i) = kindOf t.data.toList) ∧ Aside0 (Fr w0 w wr g s0 t1 t2 t3 w.heap.size zero45 45))
  case atStart => exact ⟨0, 0, rfl, ⟨rfl, rfl, by omega, rfl⟩, HF⟩
  case round =>
    clear HF
    obtain ⟨n, i, rfl, HN, HF⟩ := hrel
    by_cases hlt : n < 16
    · have hd : decide (n < 16) = true := decide_eq_true hlt
      have h0 : 0 ≤ n := by have := HN.out.1; omega
      obtain ⟨f, hf⟩ : ∃ f, wordL[i]? = some f := by
        have := HN.out.1
        have hl : i < wordL.length := by show i < 16; omega
        exact ⟨wordL[i], by simp [hl]⟩
      have hx : ∀ w, Sem.run Try.prog (Instr.index 79 (.agg wordV) (.int .i64 n)) w = .ok (.string ⟨f.toArray⟩) w := fun w => by
        rw [HN.out.1]; exact word_at i f hf w
      have hdrop : wordL.drop i = f :: wordL.drop (i + 1) := by
        obtain ⟨hl, he⟩ := List.getElem?_eq_some_iff.mp hf
        rw [← he]; exact List.drop_eq_getElem_cons hl
      have hks := HN.out.2.2.2
      rw [hdrop, kindFrom] at hks
      obtain ⟨g1, rfl⟩ : ∃ g1, gk = g1 + 1 := ⟨gk - 1, by have := HN.out; omega⟩
      have hle := HN.out
      by_cases hc : f ≠ t.data.toList ∨ f = []
      · rw [if_pos hc] at hks
        have HS : Aside0 (n + 1 = ((i + 1 : Nat) : Int) ∧ i + 1 + g1 = 17 ∧ i + 1 ≤ 16 ∧ kindFrom t.data.toList (i + 1) (wordL.drop (i + 1)) = kindOf t.data.toList) := ⟨by omega, by omega, by omega, hks⟩
        clear hks hle hdrop
        by_cases hc1 : f = t.data.toList
        · have hc2 : f = [] := hc.resolve_left (fun h => h hc1)
          have e1 : ((⟨f.toArray⟩ : ByteArray).toList == t.toList) = true := by rw [ByteArray.toList_eq, ByteArray.toList_eq]; simp [hc1]
          have e2 : (⟨f.toArray⟩ : ByteArray).toList.isEmpty = true := by rw [ByteArray.toList_eq]; simp [hc2]
          have e3 : ((⟨f.toArray⟩ : ByteArray).toList == ([] : List UInt8)) = true := by rw [ByteArray.toList_eq]; simp [hc2]
          clear hc hc1 hc2 hf
          revert hx e1 e2 e3
          generalize (⟨f.toArray⟩ : ByteArray) = F
          intro hx e1 e2 e3
          go_wp2_with fail
          go_roundg g1
          case measure => omega
          case rel => exact ⟨_, i + 1, rfl, HS, HF⟩
        · have e1 : ((⟨f.toArray⟩ : ByteArray).toList == t.toList) = false := by rw [ByteArray.toList_eq, ByteArray.toList_eq]; simpa using hc1
          clear hc hc1 hf
          revert hx e1
          generalize (⟨f.toArray⟩ : ByteArray) = F
          intro hx e1
          go_wp2_with fail
          go_roundg g1
          case measure => omega
          case rel => exact ⟨_, i + 1, rfl, HS, HF⟩
      · rw [if_neg hc] at hks
        obtain ⟨hc1, hc2⟩ : f = t.data.toList ∧ f ≠ [] := ⟨Classical.byContradiction fun h => hc (.inl h), fun h => hc (.inr h)⟩
        have e1 : ((⟨f.toArray⟩ : ByteArray).toList == t.toList) = true := by rw [ByteArray.toList_eq, ByteArray.toList_eq]; simp [hc1]
        have e2 : (⟨f.toArray⟩ : ByteArray).toList.isEmpty = false := by rw [ByteArray.toList_eq]; simpa using hc2
        have e3 : ((⟨f.toArray⟩ : ByteArray).toList == ([] : List UInt8)) = false := by rw [ByteArray.toList_eq]; simpa using hc2
        have h := H.out
        rw [← hks] at h
        obtain ⟨l, hl, h⟩ := Option.bind_eq_some_iff.mp h
        obtain ⟨⟨x, x1, x2, x3⟩, hq, h⟩ := Option.bind_eq_some_iff.mp h
        obtain ⟨⟨m1, m2, m3⟩, hm, h⟩ := Option.bind_eq_some_iff.mp h
        simp only [Option.some.injEq] at h
        subst h
        rw [← HN.out.1] at hl hq
        have HL := Aside0.mk hl
        have HQ := Aside0.mk hq
        have HM := Aside0.mk hm
        clear hc hc1 hc2 hf hks hle hdrop hl hq hm H
        revert hx e1 e2 e3
        generalize (⟨f.toArray⟩ : ByteArray) = F
        intro hx e1 e2 e3
        go_wp2_with fail
        have HS : Aside0 (Sp w0 w (wr.alloc (.cells #[.int .i64 n, .string ⟨#[]⟩, .int .i64 0, .slice none 0 0, .string ⟨#[]⟩, .string ⟨#[]⟩, .slice none 0 0, .string ⟨#[]⟩, .int .i64 0, .int .i64 0, .int .u64 0, .int .i64 0] 45)) g s0 t1 t2 t3 wr.heap.size { z45 with f0 := n } (.slice none 0 0) (.slice none 0 0)) := ⟨⟨HF.out.alloc _, ⟨blk_new _ _, Kd.R_nil _ _ _ _ _, Kd.R_nil _ _ _ _ _⟩, blk_lt HF.out.box⟩⟩
        clear HF
        revert HS
        generalize wr.heap.size = ga
        generalize wr.alloc _ = wa
        intro HS
        refine (say_args.calls k n l wa HL.out).mono ?_
        rintro e w4 ⟨v, rfl, hr, hb⟩
        obtain ⟨Al, cl, rfl⟩ := Kd.R_slice hr
        have HR : Aside0 (Kd.R (Kd.int .i64) 3 w4 (w.heap.size + 1) (fun k => k ≠ ga ∧ k ≠ g) (.slice Al l.length cl) l) := ⟨by
          have h1 := blk_lt HS.out.o.box
          have h2 := HS.out.ge
          have h3 := HG.out
          exact Kd.R_lower (Kd.R_mono (Kd.R_bound hr) (fun k hk => ⟨by have := hk.2.1; omega, by have := hk.2.1; omega⟩)) (by omega)⟩
        replace HS := Aside0.mk (HS.out.quiet hb)
        clear hr hb HL
        have HQ2 : Aside0 (argsF k s0 (l.drop 0) { z45 with f0 := n } t1 t2 t3 = some (x, x1, x2, x3)) := HQ
        have HLEN : Aside0 (l.length ≤ 9223372036854775807) := ⟨Kd.C_max (Kd.R_reads' HR.out).2.2⟩
        go_wp2_with fail
        go_loopg [33] l.length (fun kq v33 wr => ∃ (j : Int) (y : S45) (y1 y2 y3 : Int) (v3 v6 : Value), v33 = .int .i64 j ∧ Aside0 (0 ≤ j ∧ j + kq = l.length ∧ argsF k s0 (l.drop j.toNat) y y1 y2 y3 = some (x, x1, x2, x3)) ∧
          Aside0 (Sp w0 w wr g s0 y1 y2 y3 ga y v3 v6) ∧ Aside0 (Kd.R (Kd.int .i64) 3 wr (w.heap.size + 1) (fun k => k ≠ ga ∧ k ≠ g) (.slice Al l.length cl) l))
        case atStart => exact ⟨0, _, _, _, _, _, _, rfl, ⟨by omega, by omega, HQ2.out⟩, HS, HR⟩
        case round =>
          clear HQ HQ2 HS HR
          obtain ⟨j, y, y1, y2, y3, v3, v6, rfl, HJ, HS, HR⟩ := hrel
          by_cases hj : j < (l.length : Int)
          · have hdj : decide (j < (l.length : Int)) = true := decide_eq_true hj
            have hj0 : 0 ≤ j := HJ.out.1
            obtain ⟨ad, rfl, hcell⟩ := (Kd.reads_of_C (d := (0 : Int)) (Kd.R_reads' HR.out).2.2).at_ j hj0 hj
            have hdr : l.drop j.toNat = rdOf 0 l j :: l.drop (j + 1).toNat := by
              have hl : j.toNat < l.length := by omega
              rw [show (j + 1).toNat = j.toNat + 1 by omega, List.drop_eq_getElem_cons hl]
              simp [rdOf, List.getD, hl]
            have hA := HJ.out.2.2
            rw [hdr, argsF] at hA
            obtain ⟨⟨z, z1, z2, z3⟩, hz, hA⟩ := Option.bind_eq_some_iff.mp hA
            have HZ := Aside0.mk hz
            have HJ2 : Aside0 (0 ≤ j + 1 ∧ (j + 1) + ((gk - 1 : Nat) : Int) = l.length ∧ argsF k s0 (l.drop (j + 1).toNat) z z1 z2 z3 = some (x, x1, x2, x3)) := ⟨by omega, by have := HJ.out.2.1; omega, hA⟩
            have hm : j + 1 ≤ 9223372036854775807 := by have := HLEN.out; omega
            clear hz hA hdr
            go_wp2_with fail
            have hgag : ga ≠ g := fun e => by have := HS.out.ge; have := HG.out; omega
            refine (arg_calls k g s0 y1 y2 y3 (w.heap.size + 1) ga y v3 v6 _ (z, z1, z2, z3) w0 _ HS.out.f.i HS.out.f.b HS.out.o hgag (by have := HS.out.ge; have := HS.out.f.lt; omega) (by have := HS.out.ge; have := blk_lt HS.out.o.box; omega) HZ.out).mono ?_
            intro e w6 hp
            obtain ⟨rfl, ⟨v3', v6', hs⟩, hk⟩ := HS.out.arg hp
            replace HS := Aside0.mk hs
            replace HR := Aside0.mk (Kd.R_step HR.out (fun k' ho hlt => hk.2 k' hlt ho.2 (fun e => ho.1 (Option.some.inj e))))
            clear hp hs hk HZ
            go_wp2_with fail
            go_roundg (gk - 1)
            case measure => have := HJ.out.2.1; omega
            case rel => exact ⟨_, _, _, _, _, _, _, rfl, HJ2, HS, HR⟩
          · have hdj : decide (j < (l.length : Int)) = false := decide_eq_false hj
            have hA := HJ.out.2.2
            rw [List.drop_eq_nil_of_le (by omega), argsF] at hA
            simp only [Option.some.injEq, Prod.mk.injEq] at hA
            obtain ⟨rfl, rfl, rfl, rfl⟩ := hA
            go_wp2_with fail
            refine (say_parser_mark.calls g s0 y1 y2 y3 _ _ _ _ w0 _ HS.out.f.i HS.out.f.b HM.out).mono ?_
            rintro e w6 ⟨rfl, hi, hb, hk⟩
            replace HS := Aside0.mk (HS.out.call HG.out hi hb hk)
            clear hi hb hk HM HR HJ
            obtain ⟨A3, cp3, rfl⟩ := Kd.R_slice HS.out.o.r3
            obtain ⟨A6, cp6, rfl⟩ := Kd.R_slice HS.out.o.r6
            obtain ⟨q0, q1, q2, q3, q4, q5, q6, q7, q8, q9, q10, q11⟩ := val12 HS.out.o.box
            have HF : Aside0 (Fr w0 w w6 g s0 m1 m2 m3 w.heap.size #[.int .i64 0, .string ⟨#[]⟩, .int .i64 0, .slice none 0 0, .string ⟨#[]⟩, .string ⟨#[]⟩, .slice none 0 0, .string ⟨#[]⟩, .int .i64 0, .int .i64 0, .int .u64 0, .int .i64 0] 45) := ⟨HS.out.f⟩
            obtain ⟨y0, y1, y2, y3, y4, y5, y6, y7, y8, y9, y10, y11⟩ := val12 HF.out.box
            obtain ⟨z0, z1, z2, z3, z4, z5, z6, z7, z8, z9, z10, z11⟩ := warm12 HF.out.box
            have HZ := Aside0.mk (HF.out.twelve (.int .i64 y.f0) (.string y.f1.f0) (.int .i64 y.f1.f1) (.slice A3 y.f1.f2.length cp3) (.string y.f2) (.string y.f3) (.slice A6 y.f4.length cp6) (.string y.f5) (.int .i64 y.f6) (.int .i64 y.f7) (.int .u64 y.f8) (.int .i64 y.f9))
            have H3 := Aside0.mk (Kd.R_lower (Kd.R_step (w1 := put12 w6 w.heap.size (.int .i64 y.f0) (.string y.f1.f0) (.int .i64 y.f1.f1) (.slice A3 y.f1.f2.length cp3) (.string y.f2) (.string y.f3) (.slice A6 y.f4.length cp6) (.string y.f5) (.int .i64 y.f6) (.int .i64 y.f7) (.int .u64 y.f8) (.int .i64 y.f9)) (Kd.R_bound HS.out.o.r3) (fun k' hk _ => put12_other _ _ _ _ _ _ _ _ _ _ _ _ _ _ k' (by have := hk.2.1; omega))) (Nat.le_succ _))
            have H6 := Aside0.mk (Kd.R_lower (Kd.R_step (w1 := put12 w6 w.heap.size (.int .i64 y.f0) (.string y.f1.f0) (.int .i64 y.f1.f1) (.slice A3 y.f1.f2.length cp3) (.string y.f2) (.string y.f3) (.slice A6 y.f4.length cp6) (.string y.f5) (.int .i64 y.f6) (.int .i64 y.f7) (.int .u64 y.f8) (.int .i64 y.f9)) (Kd.R_bound HS.out.o.r6) (fun k' hk _ => put12_other _ _ _ _ _ _ _ _ _ _ _ _ _ _ k' (by have := hk.2.1; omega))) (Nat.le_succ _))
            have hgb : w.heap.size ≠ ga := by have := HS.out.ge; omega
            clear HS
            go_wp2_with fail
            exact bodyPost_ret (results_cell_row rfl _ _ _ 45 _ (0, 0) _ rfl HZ.out.box Try.underlying45 rfl (by kernel_rfl)) rfl ⟨_, _, rfl, Kd.R_mono H3.out (fun _ _ => trivial), Kd.R_mono H6.out (fun _ _ => trivial), HZ.out.i, HZ.out.b, HZ.out.k⟩
    · have hd : decide (n < 16) = false := decide_eq_false hlt
      obtain ⟨A1, c1, hc0, hc1, hc2, hc3, hz1, hz3, hC⟩ := HF.out.facts
      have hi16 : i = 16 := by have := HN.out; omega
      have hk : kindOf t.data.toList = none := by have := HN.out.2.2.2; rw [hi16] at this; rw [← this]; rfl
      have h := H.out
      rw [hk] at h
      obtain ⟨⟨m1, m2, m3⟩, hm, h⟩ := Option.bind_eq_some_iff.mp h
      simp only [Option.some.injEq] at h
      subst h
      have HM := Aside0.mk hm
      clear hm hk H hC
      have HF2 := Aside0.mk (HF.out.set_1 s1)
      go_wp2_with fail
      refine (say_parser_fail.calls g s0 s1 t2 t3 _ _ _ w0 _ HF2.out.i HF2.out.b HM.out).mono ?_
      rintro e w5 ⟨rfl, hi, hb, hk⟩
      replace HF : Aside0 (Fr w0 w w5 g s0 m1 m2 m3 w.heap.size #[.int .i64 0, .string ⟨#[]⟩, .int .i64 0, .slice none 0 0, .string ⟨#[]⟩, .string ⟨#[]⟩, .slice none 0 0, .string ⟨#[]⟩, .int .i64 0, .int .i64 0, .int .u64 0, .int .i64 0] 45) := Aside0.mk (HF2.out.call hi hb hk)
      clear hi hb hk HF2 hc0 hc1 hc2 hc3 hz1 hz3
      obtain ⟨y0, y1, y2, y3, y4, y5, y6, y7, y8, y9, y10, y11⟩ := val12 HF.out.box
      obtain ⟨z0, z1, z2, z3, z4, z5, z6, z7, z8, z9, z10, z11⟩ := warm12 HF.out.box
      have HZ := Aside0.mk (HF.out.twelve (.int .i64 0) (.string ⟨#[]⟩) (.int .i64 0) (.slice none 0 0) (.string ⟨#[]⟩) (.string ⟨#[]⟩) (.slice none 0 0) (.string ⟨#[]⟩) (.int .i64 0) (.int .i64 0) (.int .u64 0) (.int .i64 0))
      go_wp2_with fail
      exact bodyPost_ret (results_cell_row rfl _ _ _ 45 _ (0, 0) _ rfl HZ.out.box Try.underlying45 rfl (by kernel_rfl)) rfl ⟨_, _, rfl, Kd.R_nil _ _ _ _ _, Kd.R_nil _ _ _ _ _, HZ.out.i, HZ.out.b, HZ.out.k⟩
theorem say_parser_step.calls (k : Nat) (g : Nat) (s0_0 : List (S28)) (s0_1 : Int) (s0_2 : Int) (s0_3 : Int) (r1 : Int) (r2 : ByteArray) (r3 : Int) (r4 : List (S87)) (r5 : ByteArray) (r6 : ByteArray) (r7 : List ByteArray) (r8 : ByteArray) (r9 : Int) (r10 : Int) (r11 : Int) (r12 : Int) (r13 : Int) (r14 : Int) (r15 : Int) (w0 w : World) (hI : IsS74 w0 w g s0_0 s0_1 s0_2 s0_3) (hB : Below w0.heap.size w0 w) (h : say_parser_step.f k s0_0 s0_1 s0_2 s0_3 = some (r1, r2, r3, r4, r5, r6, r7, r8, r9, r10, r11, r12, r13, r14, r15)) :
    Calls Try.prog 41 #[.pointer (some ⟨g, 0, none⟩)] w fun e w' => ∃ v3_ v6_ : Value, e = .returned (.agg #[.int .i64 r1, .string r2, .int .i64 r3, v3_, .string r5, .string r6, v6_, .string r8, .int .i64 r9, .int .i64 r10, .int .u64 r11, .int .i64 r12]) ∧ Kd.R k87 87 w' w.heap.size (fun _ => True) v3_ r4 ∧ Kd.R Kd.string 9 w' w.heap.size (fun _ => True) v6_ r7 ∧ IsS74 w0 w' g s0_0 r13 r14 r15 ∧ Below w0.heap.size w0 w' ∧ KeepBut w w' g none := by
  unfold say_parser_step.f at h
  obtain ⟨q, hq, h⟩ := Option.bind_eq_some_iff.mp h
  simp only [Option.some.injEq, Prod.mk.injEq] at h
  obtain ⟨rfl, rfl, rfl, rfl, rfl, rfl, rfl, rfl, rfl, rfl, rfl, rfl, rfl, rfl, rfl⟩ := h
  exact step_calls k g s0_0 s0_1 s0_2 s0_3 q w0 w hI hB hq

end Go.Proofs.Ytokkjnfdfbpphaa.A
namespace Go.Proofs.Ytokkjnfdfbpphaa.A
open Go.RowKit Go.Proofs.YtokkjnfdfbpphaaW.PrintWords Go.Proofs.YtokkjnfdfbpphaaW.PrintLast Go.Proofs.YtokkjnfdfbpphaaW.PrintMore
attribute [local go_sem] max2_int min2_int max_two min_two max_three min_three max_four min_four   -- for this text's walks alone
set_option linter.unusedVariables false
set_option linter.unusedSimpArgs false

/-! ### say_Script: function 19 -/
def scriptL : Nat → List S28 → List S45 → Int → Int → Int → Option (List S45 × Int)
  | 0, _, _, _, _, _ => none
  | k + 1, s0, acc, s1, s2, s3 =>
    if s3 < 0 ∧ s1 < (s0.length : Int) then (if acc.length < 549755813888 then (stepF k s0 s1 s2 s3).bind fun q => scriptL k s0 (acc ++ [q.1]) q.2.1 q.2.2.1 q.2.2.2 else none) else some (acc, s3)
def scriptF (k : Nat) (l : List S28) (n : Int) : Option (List S45 × Int × Int) :=
  (scriptL k l [] 0 n (-1)).bind fun q => if q.2 ≥ 0 then some ([], q.2, 4) else some (q.1, 0, 0)
def say_Script.f (k : Nat) (a0 : ByteArray) : Option ((List (S45)) × Int × Int) := (say_Tokens.f a0).bind fun t => if t.2.2 ≠ 0 then some ([], t.2.1, t.2.2) else scriptF k t.1 a0.size
theorem scriptL_mono : ∀ k s0 acc s1 s2 s3, LeO (scriptL k s0 acc s1 s2 s3) (scriptL (k + 1) s0 acc s1 s2 s3)
  | 0, _, _, _, _, _ => LeO.none _
  | k + 1, s0, acc, s1, s2, s3 => by
    unfold scriptL
    exact LeO.ite (LeO.ite (LeO.bind (stepF_mono _ _ _ _ _) fun q => scriptL_mono k _ _ _ _ _) (LeO.refl _)) (LeO.refl _)
theorem say_Script.mono : ∀ a0 k, LeO (say_Script.f k a0) (say_Script.f (k + 1) a0) := by
  intro a0 k
  unfold say_Script.f scriptF
  exact LeO.bind (LeO.refl _) fun t => LeO.ite (LeO.refl _) (LeO.bind (scriptL_mono _ _ _ _ _ _) fun _ => LeO.refl _)
theorem info45 : (Try.prog.info? 45).map (fun i => (i.zero, i.size, i.bytes)) = some (some (.agg #[.int .i64 0, .string ⟨#[]⟩, .int .i64 0, .slice none 0 0, .string ⟨#[]⟩, .string ⟨#[]⟩, .slice none 0 0, .string ⟨#[]⟩, .int .i64 0, .int .i64 0, .int .u64 0, .int .i64 0]), 12, 160) := by kernel_rfl
/-- A script under way. -/
structure Sc (w w1 wc : World) (g : Nat) (l : List S28) (s1 s2 s3 : Int) (v : Value) (acc : List S45) : Prop where
  i : IsS74 w1 wc g l s1 s2 s3
  b : Below w1.heap.size w1 wc
  lt : Below w.heap.size w w1
  own : Kd.S k45 45 wc w1.heap.size (fun k => k ≠ g) v acc
theorem Sc.drewN {w w1 wc : World} {g : Nat} {l : List S28} {s1 s2 s3 : Int} {v : Value} {acc : List S45} (h : Sc w w1 wc g l s1 s2 s3 v acc) (n : Nat) : Sc w w1 (wc.drewN n) g l s1 s2 s3 v acc :=
  ⟨h.i.drewN n, pw_below_drewN h.b n, h.lt, Kd.S_drewN h.own n⟩
set_option maxRecDepth 100000 in
set_option maxHeartbeats 4000000 in
theorem say_Script.calls (k : Nat) (a0 : ByteArray) (r1 : List (S45)) (r2 : Int) (r3 : Int) (w : World) (h : say_Script.f k a0 = some (r1, r2, r3)) :
    Calls Try.prog 19 #[.string a0] w fun e w' => ∃ v0_ : Value, e = .returned (.tuple #[v0_, .int .i64 r2, .int .i64 r3]) ∧ Kd.S k45 45 w' w.heap.size (fun _ => True) v0_ r1 ∧ Below w.heap.size w w' := by
  unfold say_Script.f at h
  obtain ⟨⟨l, at_, er⟩, ht, h⟩ := Option.bind_eq_some_iff.mp h
  have HT := Aside0.mk ht
  have H := Aside0.mk h
  clear ht h
  go_enter Try.func19, Try.ntmps19
  go_wp2_with fail
  refine (say_Tokens.calls a0 l at_ er w HT.out).mono ?_
  rintro e w1 ⟨v, rfl, hr, hb⟩
  have HB := Aside0.mk hb
  have HR := Aside0.mk hr
  obtain ⟨Av, cv, rfl⟩ := Kd.R_slice hr
  clear hr hb HT
  by_cases he : er = 0
  · subst he
    have H2 := Aside0.mk ((if_neg (by simp)).symm.trans H.out)
    obtain ⟨⟨accE, bad⟩, hl, h⟩ := Option.bind_eq_some_iff.mp H2.out
    have HL := Aside0.mk hl
    have HE := Aside0.mk h
    clear hl h H H2
    have HS : Aside0 (Sc w w1 (w1.alloc (.cells #[.slice Av l.length cv, .int .i64 0, .int .i64 a0.size, .int .i64 (-1)] 74)) w1.heap.size l 0 a0.size (-1) (.slice none 0 0) []) :=
      ⟨⟨⟨Av, cv, blk_new _ _, Nat.le_refl _, (Kd.R_reads' HR.out).2.2⟩, below_alloc (Below.refl _ _) _, HB.out, Kd.S_nil _ _ _ _ _⟩⟩
    clear HR HB
    go_wp2_with fail
    generalize w1.heap.size = g at HS ⊢
    go_loopg [9] k (fun kq v9 wr => ∃ (acc : List S45) (s1 s2 s3 : Int), Aside0 (scriptL kq l acc s1 s2 s3 = some (accE, bad)) ∧ Aside0 (Sc w w1 wr g l s1 s2 s3 v9 acc))
    case atStart => exact ⟨[], _, _, _, HL, HS⟩
    case round =>
      clear HL HS
      obtain ⟨acc, s1, s2, s3, HL, HS⟩ := hrel
      cases gk with
      | zero => exact absurd HL.out (by simp [scriptL])
      | succ k1 =>
        have h := HL.out
        unfold scriptL at h
        obtain ⟨A0, c0, hbx, hgx, hCx⟩ := HS.out.i
        have hc0 := cellS74_0 hbx
        have hc1 := cellS74_1 hbx
        have hc3 := cellS74_3 hbx
        clear hbx hgx hCx
        by_cases hc : s3 < 0 ∧ s1 < (l.length : Int)
        · have d3 : decide (s3 < 0) = true := decide_eq_true hc.1
          have d1 : decide (s1 < (l.length : Int)) = true := decide_eq_true hc.2
          rw [if_pos hc] at h
          by_cases hlen : acc.length < 549755813888
          · rw [if_pos hlen] at h
            obtain ⟨⟨x, x1, x2, x3⟩, hx, h⟩ := Option.bind_eq_some_iff.mp h
            have HX := Aside0.mk hx
            have HN := Aside0.mk h
            have HLEN := Aside0.mk hlen
            clear hx h HL hc hlen
            go_wp2_with fail
            go_quiet (fail)
            replace HS := Aside0.mk (HS.out.drewN nq)
            clear hc0 hc1 hc3
            revert HS
            generalize wr.drewN nq = wd
            intro HS
            go_wp2_with fail
            refine (step_calls k1 g l s1 s2 s3 _ w1 wd HS.out.i HS.out.b HX.out).mono ?_
            rintro e w2 ⟨v3, v6, rfl, h3, h6, hi, hb, hk⟩
            obtain ⟨A3, cp3, rfl⟩ := Kd.R_slice h3
            obtain ⟨A6, cp6, rfl⟩ := Kd.R_slice h6
            have hg := HS.out.i.lt
            have hge := HS.out.i.ge
            have HI := Aside0.mk hi
            have HB := Aside0.mk hb
            have HO : Aside0 (Kd.S k45 45 w2 w1.heap.size (fun k => k ≠ g ∧ ¬ (wd.heap.size ≤ k)) u9 acc) := ⟨Kd.S_keep (Kd.S_mono (Kd.S_bound HS.out.own) (fun k hk => ⟨hk.1, by have := hk.2.2.1; omega⟩)) hk (fun _ h => h.1)⟩
            have HM : Aside0 (k45.M w2 w1.heap.size (fun k => wd.heap.size ≤ k) x [.int .i64 x.f0, .string x.f1.f0, .int .i64 x.f1.f1, .slice A3 x.f1.f2.length cp3, .string x.f2, .string x.f3, .slice A6 x.f4.length cp6, .string x.f5, .int .i64 x.f6, .int .i64 x.f7, .int .u64 x.f8, .int .i64 x.f9]) :=
              ⟨k45_mkM _ _ _ x (Kd.R_lower (Kd.R_mono (Kd.R_bound h3) (fun k hk => hk.2.1)) HS.out.b.size) (Kd.R_lower (Kd.R_mono (Kd.R_bound h6) (fun k hk => hk.2.1)) HS.out.b.size)⟩
            have HV : Aside0 ((∀ k, u9.ownBlock = some k → k < wd.heap.size) ∧ wd.heap.size ≤ w2.heap.size ∧ g < wd.heap.size) := ⟨Kd.S_lt HS.out.own, hk.1, hg⟩
            clear h3 h6 hi hb hk hg hge
            go_wp2_with (at_builtin; refine Kd.S_append k45 w1.heap.size rfl (.tmp 42) (.tmp 45) 39 45 (.agg #[.int .i64 0, .string ⟨#[]⟩, .int .i64 0, .slice none 0 0, .string ⟨#[]⟩, .string ⟨#[]⟩, .slice none 0 0, .string ⟨#[]⟩, .int .i64 0, .int .i64 0, .int .u64 0, .int .i64 0]) 160 rfl Try.underlying39 info45 rfl (by decide) (by omega) u9 acc x [.int .i64 x.f0, .string x.f1.f0, .int .i64 x.f1.f1, .slice A3 x.f1.f2.length cp3, .string x.f2, .string x.f3, .slice A6 x.f4.length cp6, .string x.f5, .int .i64 x.f6, .int .i64 x.f7, .int .u64 x.f8, .int .i64 x.f9] (fun k => k ≠ g) (fun k => wd.heap.size ≤ k) rfl (by first | (go_simp; done) | (go_simp; rfl)) HM.out ?aK ?aF HO.out (Below.refl _ _) ?aS ?aL ?_)
            case aK => intro k_ hk; exact ⟨by have := HV.out.2.2; omega, fun e => by have := HV.out.1 _ e.symm; omega⟩
            case aF => intro k_ hk; have := HV.out.2; omega
            case aS => exact HB.out.size
            case aL => have := HLEN.out; omega
            revert HN
            generalize acc ++ [x] = acc2
            intro HN v1 w9 ho hb hg hat
            have HS2 : Aside0 (Sc w w1 w9 g l x1 x2 x3 v1 acc2) := ⟨HI.out.grown hg (Kd.S_away HO.out (fun _ h => h.1)), HB.out.trans hb, HS.out.lt, ho⟩
            clear ho hb hg hat HM HO HI HB
            go_wp2_with fail
            go_roundg k1
            case measure => omega
            case rel => exact ⟨acc2, _, _, _, HN, HS2⟩
          · rw [if_neg hlen] at h
            exact absurd h (by simp)
        · rw [if_neg hc] at h
          simp only [Option.some.injEq, Prod.mk.injEq] at h
          obtain ⟨rfl, rfl⟩ := h
          have HE2 := Aside0.mk HE.out
          clear HE HL
          by_cases h3 : s3 < 0
          · have d3 : decide (s3 < 0) = true := decide_eq_true h3
            have d4 : decide (0 ≤ s3) = false := decide_eq_false (by omega)
            have d1 : decide (s1 < (l.length : Int)) = false := decide_eq_false (fun h1 => hc ⟨h3, h1⟩)
            have h := (if_neg (show ¬ (acc, s3).2 ≥ 0 from by show ¬ s3 ≥ 0; omega)).symm.trans HE2.out
            simp only [Option.some.injEq, Prod.mk.injEq] at h
            obtain ⟨rfl, rfl, rfl⟩ := h
            clear HE2 hc
            go_wp2_with fail
            go_quiet (fail)
            have HS2 := Aside0.mk (HS.out.drewN nq)
            go_wp2_with fail
            exact bodyPost_ret (results_tmp3 rfl _ _ _) rfl ⟨_, rfl, Kd.S_lower (Kd.S_mono HS2.out.own (fun _ _ => trivial)) HS2.out.lt.size, below_step HS2.out.lt HS2.out.b⟩
          · have d3 : decide (s3 < 0) = false := decide_eq_false h3
            have d4 : decide (0 ≤ s3) = true := decide_eq_true (by omega)
            have h := (if_pos (show (acc, s3).2 ≥ 0 from by show s3 ≥ 0; omega)).symm.trans HE2.out
            simp only [Option.some.injEq, Prod.mk.injEq] at h
            obtain ⟨rfl, rfl, rfl⟩ := h
            clear HE2 hc
            go_wp2_with fail
            go_quiet (fail)
            replace HS := Aside0.mk (HS.out.drewN nq)
            clear hc0 hc1 hc3
            revert HS
            generalize wr.drewN nq = wd
            intro HS
            obtain ⟨A1, c1, hbx, hgx, hCx⟩ := HS.out.i
            have hc3 := cellS74_3 hbx
            clear hbx hgx hCx
            go_wp2_with fail
            go_quiet (fail)
            have HS2 := Aside0.mk (HS.out.drewN nq)
            go_wp2_with fail
            exact bodyPost_ret (results_tmp3 rfl _ _ _) rfl ⟨_, rfl, Kd.S_nil _ _ _ _ _, below_step HS2.out.lt HS2.out.b⟩
  · have h := (if_pos he).symm.trans H.out
    simp only [Option.some.injEq, Prod.mk.injEq] at h
    obtain ⟨rfl, rfl, rfl⟩ := h
    have e1 : (er == 0) = false := by simpa using he
    go_wp2_with fail
    exact bodyPost_ret (results_tmp3 rfl _ _ _) rfl ⟨_, rfl, Kd.S_nil _ _ _ _ _, HB.out⟩

end Go.Proofs.Ytokkjnfdfbpphaa.A
namespace Go.Proofs.Ytokkjnfdfbpphaa.A
open Go.RowKit Go.Proofs.YtokkjnfdfbpphaaW.PrintWords Go.Proofs.YtokkjnfdfbpphaaW.PrintLast Go.Proofs.YtokkjnfdfbpphaaW.PrintMore
attribute [local go_sem] max2_int min2_int max_two min_two max_three min_three max_four min_four   -- for this text's walks alone
set_option linter.unusedVariables false
set_option linter.unusedSimpArgs false

/-! ### chartularylaw23_awake: function 12 -/
def chartularylaw23_awake.f (k : Nat)  : Option (Bool) := (say_Script.f k (⟨#[116, 105, 99, 107, 32, 53, 59]⟩ : ByteArray)).bind fun bt224 => ((say_Script.f k (⟨#[116, 105, 99, 107, 32, 45, 48, 59]⟩ : ByteArray)).bind fun bt229 => (if bt224.2.2 = 0 then (if (bt224.1.length : Int) = 1 then (if 0 < (bt224.1.length : Int) then (if ((rd_T45 bt224.1 0).f0) = 8 then (if ((rd_T45 bt224.1 0).f6) = 5 then (if bt229.2.2 = 4 then (some (bt229.2.1 == 5)) else (some false)) else (some false)) else (some false)) else (none)) else (some false)) else (some false)))
theorem chartularylaw23_awake.mono : ∀ k, LeO (chartularylaw23_awake.f k ) (chartularylaw23_awake.f (k + 1) ) := by
  intro  k
  unfold chartularylaw23_awake.f
  repeat' first
      | (with_reducible exact say_Script.mono _ _)
      | (with_reducible exact LeO.refl _)
      | (with_reducible exact LeO.none _)
      | (with_reducible refine LeO.ite ?_ ?_)
      | (with_reducible refine LeO.bind ?_ (fun _ => ?_))
      | exact say_Script.mono _ _
      | exact LeO.none _
      | refine LeO.ite ?_ ?_
      | refine LeO.bind ?_ (fun _ => ?_)
set_option maxHeartbeats 8000000 in
set_option maxRecDepth 100000 in
theorem chartularylaw23_awake.calls (k : Nat)  (r : Bool) (w : World) (h : chartularylaw23_awake.f k  = some r) :
    Calls Try.prog 12 #[] w fun e w' => e = .returned (.bool r) ∧ Below w.heap.size w w' := by
  have HB := Aside0.mk (Below.refl w.heap.size w)
  have H : ((say_Script.f k (⟨#[116, 105, 99, 107, 32, 53, 59]⟩ : ByteArray)).bind fun bt224 => ((say_Script.f k (⟨#[116, 105, 99, 107, 32, 45, 48, 59]⟩ : ByteArray)).bind fun bt229 => (if bt224.2.2 = 0 then (if (bt224.1.length : Int) = 1 then (if 0 < (bt224.1.length : Int) then (if ((rd_T45 bt224.1 0).f0) = 8 then (if ((rd_T45 bt224.1 0).f6) = 5 then (if bt229.2.2 = 4 then (some (bt229.2.1 == 5)) else (some false)) else (some false)) else (some false)) else (none)) else (some false)) else (some false)))) = some r := h
  clear h
  replace H := Option.bind_eq_some_iff.mp H
  obtain ⟨⟨t224, t225, t226⟩, A10, H⟩ := H
  replace H : ((say_Script.f k (⟨#[116, 105, 99, 107, 32, 45, 48, 59]⟩ : ByteArray)).bind fun bt229 => (if t226 = 0 then (if (t224.length : Int) = 1 then (if 0 < (t224.length : Int) then (if ((rd_T45 t224 0).f0) = 8 then (if ((rd_T45 t224 0).f6) = 5 then (if bt229.2.2 = 4 then (some (bt229.2.1 == 5)) else (some false)) else (some false)) else (some false)) else (none)) else (some false)) else (some false))) = some r := H
  have A1 := Aside0.mk A10
  clear A10
  replace H := Option.bind_eq_some_iff.mp H
  obtain ⟨⟨t229, t230, t231⟩, A20, H⟩ := H
  replace H : (if t226 = 0 then (if (t224.length : Int) = 1 then (if 0 < (t224.length : Int) then (if ((rd_T45 t224 0).f0) = 8 then (if ((rd_T45 t224 0).f6) = 5 then (if t231 = 4 then (some (t230 == 5)) else (some false)) else (some false)) else (some false)) else (none)) else (some false)) else (some false)) = some r := H
  have A2 := Aside0.mk A20
  clear A20
  by_cases c3 : t226 = 0
  · rw [if_pos c3] at H
    have c3b0 : (t226 == 0) = true := beq_iff_eq.mpr c3
    have c3b1 : (t226 != 0) = false := bne_eq_false_iff_eq.mpr c3
    clear c3
    by_cases c4 : (t224.length : Int) = 1
    · rw [if_pos c4] at H
      have c4b0 : ((t224.length : Int) == 1) = true := beq_iff_eq.mpr c4
      have c4b1 : ((t224.length : Int) != 1) = false := bne_eq_false_iff_eq.mpr c4
      clear c4
      by_cases c5 : 0 < (t224.length : Int)
      · rw [if_pos c5] at H
        have c5b0 : decide (0 < (t224.length : Int)) = true := decide_eq_true c5
        have c5b1 : decide (0 < t224.length) = true := decide_eq_true (by omega)
        clear c5
        by_cases c6 : ((rd_T45 t224 0).f0) = 8
        · rw [if_pos c6] at H
          have c6b0 : (((rd_T45 t224 0).f0) == 8) = true := beq_iff_eq.mpr c6
          have c6b1 : (((rd_T45 t224 0).f0) != 8) = false := bne_eq_false_iff_eq.mpr c6
          clear c6
          by_cases c7 : ((rd_T45 t224 0).f6) = 5
          · rw [if_pos c7] at H
            have c7b0 : (((rd_T45 t224 0).f6) == 5) = true := beq_iff_eq.mpr c7
            have c7b1 : (((rd_T45 t224 0).f6) != 5) = false := bne_eq_false_iff_eq.mpr c7
            clear c7
            by_cases c8 : t231 = 4
            · rw [if_pos c8] at H
              have c8b0 : (t231 == 4) = true := beq_iff_eq.mpr c8
              have c8b1 : (t231 != 4) = false := bne_eq_false_iff_eq.mpr c8
              clear c8
              obtain rfl := Option.some.inj H
              go_enter Try.func12, Try.ntmps12
              go_wp2_with (first | ((with_reducible refine gate_callee (f := 19) rfl ?_); refine goesL_ (some 8) rfl rfl Try.func19 (by kernel_rfl) rfl #[.string (⟨#[116, 105, 99, 107, 32, 53, 59]⟩ : ByteArray)] rfl (by (try simp only [List.map_toArray, List.map_cons, List.map_nil]); first | done | rfl | (simp only [List.length_drop, List.length_take]; rfl)) ?_; (with_reducible refine (say_Script.calls k (⟨#[116, 105, 99, 107, 32, 53, 59]⟩ : ByteArray) t224 t225 t226 _ A1.out).mono ?_); rintro e w9 ⟨v227, rfl, ho0, hb⟩; refine ⟨_, rfl, ?_⟩; have n0_ := Aside0.mk (Kd.S_lower ho0 (below_size (by repeat (first | (with_reducible first | exact HB.out | apply below_alloc | apply pw_below_drewN | apply below_drew1) | exact HB.out)))); have n1_ := Aside0.mk (below_step (by repeat (first | (with_reducible first | exact HB.out | apply below_alloc | apply pw_below_drewN | apply below_drew1) | exact HB.out)) hb); clear HB; have HO228 := n0_; have HB := n1_; clear n0_ n1_; (try clear hb); (try clear hb2); (try clear hk); (try clear hi); (try clear ho0)) | ((with_reducible refine gate_callee (f := 19) rfl ?_); refine goesL_ (some 13) rfl rfl Try.func19 (by kernel_rfl) rfl #[.string (⟨#[116, 105, 99, 107, 32, 45, 48, 59]⟩ : ByteArray)] rfl (by (try simp only [List.map_toArray, List.map_cons, List.map_nil]); first | done | rfl | (simp only [List.length_drop, List.length_take]; rfl)) ?_; (with_reducible refine (say_Script.calls k (⟨#[116, 105, 99, 107, 32, 45, 48, 59]⟩ : ByteArray) t229 t230 t231 _ A2.out).mono ?_); rintro e w10 ⟨v232, rfl, ho0, hb⟩; refine ⟨_, rfl, ?_⟩; have n0_ := Aside0.mk (Kd.S_elder' (by (with_reducible repeat (first | apply Kd.S_alloc | apply Kd.S_drewN | apply Kd.S_drew)); exact HO228.out) (Kd.S_base ho0) hb); have n1_ := Aside0.mk (Kd.S_lower (Kd.S_new' ho0 (Kd.S_lt (by (with_reducible repeat (first | apply Kd.S_alloc | apply Kd.S_drewN | apply Kd.S_drew)); exact HO228.out))) (below_size (by repeat (first | (with_reducible first | exact HB.out | apply below_alloc | apply pw_below_drewN | apply below_drew1) | exact HB.out)))); have n2_ := Aside0.mk (below_step (by repeat (first | (with_reducible first | exact HB.out | apply below_alloc | apply pw_below_drewN | apply below_drew1) | exact HB.out)) hb); clear HO228; clear HB; have HO228 := n0_; have HO233 := n1_; have HB := n2_; clear n0_ n1_ n2_; (try clear hb); (try clear hb2); (try clear hk); (try clear hi); (try clear ho0); obtain ⟨Ao11, co11, eo11⟩ := Kd.S_slice HO228.out; subst eo11; have p234 : 0 ≤ (0 : Int) := (by omega); have q234 : 0 < (t224.length : Int) := of_decide_eq_true (by first | (with_reducible assumption) | assumption); obtain ⟨ad234, A234_3, c234_3, A234_6, c234_6, e234, hx234_0, hx234_1, hx234_2, hx234_3, hx234_4, hx234_5, hx234_6, hx234_7, hx234_8, hx234_9, hx234_10, hx234_11, hl234_3, hi234_3, hl234_6, hi234_6⟩ := at_T45 (Kd.S_reads' HO228.out).2.2 0 p234 q234; cases e234; obtain ⟨ce234, hce234, hMe234, hcc234⟩ := Kd.S_get HO228.out z45 0 p234 (by first | exact q234 | exact of_decide_eq_true (by first | (with_reducible assumption) | assumption) | (have e_ := (Kd.S_reads' HO228.out).1; omega)); obtain ⟨ve234_3, ve234_6, rfl, ge234_3, ge234_6⟩ := k45_openM hMe234; have hv234_3 := hcc234 3 _ rfl; rw [add_field _ _ 3 (by omega)] at hv234_3; replace hv234_3 := Option.some.inj (hv234_3.symm.trans hx234_3); rw [hv234_3] at ge234_3; have HL234_3 := Aside0.mk (show Kd.R k87 87 _ _ _ _ ((rd_T45 t224 0).f1.f2) from ge234_3); clear hv234_3 ge234_3; have hv234_6 := hcc234 6 _ rfl; rw [add_field _ _ 6 (by omega)] at hv234_6; replace hv234_6 := Option.some.inj (hv234_6.symm.trans hx234_6); rw [hv234_6] at ge234_6; have HL234_6 := Aside0.mk (show Kd.R Kd.string 9 _ _ _ _ ((rd_T45 t224 0).f4) from ge234_6); clear hv234_6 ge234_6; clear hcc234 hce234; have qi234 : (0 < t224.length) = True := eq_true (by omega); (try rw [show ((0 : Int)).toNat = 0 from rfl] at hx234_0); (try rw [show 0 * 12 = 0 from rfl] at hx234_0); (try rw [Addr.add_zero'] at hx234_0); (try rw [show ((0 : Int)).toNat = 0 from rfl] at hx234_1); (try rw [show 0 * 12 = 0 from rfl] at hx234_1); (try rw [Addr.add_zero'] at hx234_1); (try rw [show ((0 : Int)).toNat = 0 from rfl] at hx234_2); (try rw [show 0 * 12 = 0 from rfl] at hx234_2); (try rw [Addr.add_zero'] at hx234_2); (try rw [show ((0 : Int)).toNat = 0 from rfl] at hx234_3); (try rw [show 0 * 12 = 0 from rfl] at hx234_3); (try rw [Addr.add_zero'] at hx234_3); (try rw [show ((0 : Int)).toNat = 0 from rfl] at hx234_4); (try rw [show 0 * 12 = 0 from rfl] at hx234_4); (try rw [Addr.add_zero'] at hx234_4); (try rw [show ((0 : Int)).toNat = 0 from rfl] at hx234_5); (try rw [show 0 * 12 = 0 from rfl] at hx234_5); (try rw [Addr.add_zero'] at hx234_5); (try rw [show ((0 : Int)).toNat = 0 from rfl] at hx234_6); (try rw [show 0 * 12 = 0 from rfl] at hx234_6); (try rw [Addr.add_zero'] at hx234_6); (try rw [show ((0 : Int)).toNat = 0 from rfl] at hx234_7); (try rw [show 0 * 12 = 0 from rfl] at hx234_7); (try rw [Addr.add_zero'] at hx234_7); (try rw [show ((0 : Int)).toNat = 0 from rfl] at hx234_8); (try rw [show 0 * 12 = 0 from rfl] at hx234_8); (try rw [Addr.add_zero'] at hx234_8); (try rw [show ((0 : Int)).toNat = 0 from rfl] at hx234_9); (try rw [show 0 * 12 = 0 from rfl] at hx234_9); (try rw [Addr.add_zero'] at hx234_9); (try rw [show ((0 : Int)).toNat = 0 from rfl] at hx234_10); (try rw [show 0 * 12 = 0 from rfl] at hx234_10); (try rw [Addr.add_zero'] at hx234_10); (try rw [show ((0 : Int)).toNat = 0 from rfl] at hx234_11); (try rw [show 0 * 12 = 0 from rfl] at hx234_11); (try rw [Addr.add_zero'] at hx234_11); have HR234_3 := Aside0.mk hi234_3; have HC234_3 := Aside0.mk hl234_3; clear hi234_3 hl234_3; have HR234_6 := Aside0.mk hi234_6; have HC234_6 := Aside0.mk hl234_6; clear hi234_6 hl234_6; replace p234 := eq_true p234; replace q234 := eq_true q234; have p235 : 0 ≤ (0 : Int) := (by omega); have q235 : 0 < (t224.length : Int) := of_decide_eq_true (by first | (with_reducible assumption) | assumption); obtain ⟨ad235, A235_3, c235_3, A235_6, c235_6, e235, hx235_0, hx235_1, hx235_2, hx235_3, hx235_4, hx235_5, hx235_6, hx235_7, hx235_8, hx235_9, hx235_10, hx235_11, hl235_3, hi235_3, hl235_6, hi235_6⟩ := at_T45 (Kd.S_reads' HO228.out).2.2 0 p235 q235; obtain rfl : ad234 = ad235 := (by injection e235); obtain ⟨ce235, hce235, hMe235, hcc235⟩ := Kd.S_get HO228.out z45 0 p235 (by first | exact q235 | exact of_decide_eq_true (by first | (with_reducible assumption) | assumption) | (have e_ := (Kd.S_reads' HO228.out).1; omega)); obtain ⟨ve235_3, ve235_6, rfl, ge235_3, ge235_6⟩ := k45_openM hMe235; have hv235_3 := hcc235 3 _ rfl; rw [add_field _ _ 3 (by omega)] at hv235_3; replace hv235_3 := Option.some.inj (hv235_3.symm.trans hx235_3); rw [hv235_3] at ge235_3; have HL235_3 := Aside0.mk (show Kd.R k87 87 _ _ _ _ ((rd_T45 t224 0).f1.f2) from ge235_3); clear hv235_3 ge235_3; have hv235_6 := hcc235 6 _ rfl; rw [add_field _ _ 6 (by omega)] at hv235_6; replace hv235_6 := Option.some.inj (hv235_6.symm.trans hx235_6); rw [hv235_6] at ge235_6; have HL235_6 := Aside0.mk (show Kd.R Kd.string 9 _ _ _ _ ((rd_T45 t224 0).f4) from ge235_6); clear hv235_6 ge235_6; clear hcc235 hce235; have qi235 : (0 < t224.length) = True := eq_true (by omega); (try rw [show ((0 : Int)).toNat = 0 from rfl] at hx235_0); (try rw [show 0 * 12 = 0 from rfl] at hx235_0); (try rw [Addr.add_zero'] at hx235_0); (try rw [show ((0 : Int)).toNat = 0 from rfl] at hx235_1); (try rw [show 0 * 12 = 0 from rfl] at hx235_1); (try rw [Addr.add_zero'] at hx235_1); (try rw [show ((0 : Int)).toNat = 0 from rfl] at hx235_2); (try rw [show 0 * 12 = 0 from rfl] at hx235_2); (try rw [Addr.add_zero'] at hx235_2); (try rw [show ((0 : Int)).toNat = 0 from rfl] at hx235_3); (try rw [show 0 * 12 = 0 from rfl] at hx235_3); (try rw [Addr.add_zero'] at hx235_3); (try rw [show ((0 : Int)).toNat = 0 from rfl] at hx235_4); (try rw [show 0 * 12 = 0 from rfl] at hx235_4); (try rw [Addr.add_zero'] at hx235_4); (try rw [show ((0 : Int)).toNat = 0 from rfl] at hx235_5); (try rw [show 0 * 12 = 0 from rfl] at hx235_5); (try rw [Addr.add_zero'] at hx235_5); (try rw [show ((0 : Int)).toNat = 0 from rfl] at hx235_6); (try rw [show 0 * 12 = 0 from rfl] at hx235_6); (try rw [Addr.add_zero'] at hx235_6); (try rw [show ((0 : Int)).toNat = 0 from rfl] at hx235_7); (try rw [show 0 * 12 = 0 from rfl] at hx235_7); (try rw [Addr.add_zero'] at hx235_7); (try rw [show ((0 : Int)).toNat = 0 from rfl] at hx235_8); (try rw [show 0 * 12 = 0 from rfl] at hx235_8); (try rw [Addr.add_zero'] at hx235_8); (try rw [show ((0 : Int)).toNat = 0 from rfl] at hx235_9); (try rw [show 0 * 12 = 0 from rfl] at hx235_9); (try rw [Addr.add_zero'] at hx235_9); (try rw [show ((0 : Int)).toNat = 0 from rfl] at hx235_10); (try rw [show 0 * 12 = 0 from rfl] at hx235_10); (try rw [Addr.add_zero'] at hx235_10); (try rw [show ((0 : Int)).toNat = 0 from rfl] at hx235_11); (try rw [show 0 * 12 = 0 from rfl] at hx235_11); (try rw [Addr.add_zero'] at hx235_11); have HR235_3 := Aside0.mk hi235_3; have HC235_3 := Aside0.mk hl235_3; clear hi235_3 hl235_3; have HR235_6 := Aside0.mk hi235_6; have HC235_6 := Aside0.mk hl235_6; clear hi235_6 hl235_6; replace p235 := eq_true p235; replace q235 := eq_true q235; have ea_ := Option.some.inj (hx234_3.symm.trans hx235_3); injection ea_ with ea_ en_ ec_; subst ea_; subst ec_; clear en_; have ea_ := Option.some.inj (hx234_6.symm.trans hx235_6); injection ea_ with ea_ en_ ec_; subst ea_; subst ec_; clear en_))
              go_ret
              exact ⟨by first | rfl | (simp [errW_none, errW_some] <;> rfl) | (simp [*, errW_none, errW_some] <;> rfl), by repeat (first | (with_reducible first | exact HB.out | apply below_alloc | apply pw_below_drewN | apply below_drew1) | exact HB.out)⟩
            · rw [if_neg c8] at H
              have c8b0 : (t231 == 4) = false := beq_eq_false_iff_ne.mpr c8
              have c8b1 : (t231 != 4) = true := bne_iff_ne.mpr c8
              obtain rfl := Option.some.inj H
              go_enter Try.func12, Try.ntmps12
              go_wp2_with (first | ((with_reducible refine gate_callee (f := 19) rfl ?_); refine goesL_ (some 8) rfl rfl Try.func19 (by kernel_rfl) rfl #[.string (⟨#[116, 105, 99, 107, 32, 53, 59]⟩ : ByteArray)] rfl (by (try simp only [List.map_toArray, List.map_cons, List.map_nil]); first | done | rfl | (simp only [List.length_drop, List.length_take]; rfl)) ?_; (with_reducible refine (say_Script.calls k (⟨#[116, 105, 99, 107, 32, 53, 59]⟩ : ByteArray) t224 t225 t226 _ A1.out).mono ?_); rintro e w12 ⟨v227, rfl, ho0, hb⟩; refine ⟨_, rfl, ?_⟩; have n0_ := Aside0.mk (Kd.S_lower ho0 (below_size (by repeat (first | (with_reducible first | exact HB.out | apply below_alloc | apply pw_below_drewN | apply below_drew1) | exact HB.out)))); have n1_ := Aside0.mk (below_step (by repeat (first | (with_reducible first | exact HB.out | apply below_alloc | apply pw_below_drewN | apply below_drew1) | exact HB.out)) hb); clear HB; have HO228 := n0_; have HB := n1_; clear n0_ n1_; (try clear hb); (try clear hb2); (try clear hk); (try clear hi); (try clear ho0)) | ((with_reducible refine gate_callee (f := 19) rfl ?_); refine goesL_ (some 13) rfl rfl Try.func19 (by kernel_rfl) rfl #[.string (⟨#[116, 105, 99, 107, 32, 45, 48, 59]⟩ : ByteArray)] rfl (by (try simp only [List.map_toArray, List.map_cons, List.map_nil]); first | done | rfl | (simp only [List.length_drop, List.length_take]; rfl)) ?_; (with_reducible refine (say_Script.calls k (⟨#[116, 105, 99, 107, 32, 45, 48, 59]⟩ : ByteArray) t229 t230 t231 _ A2.out).mono ?_); rintro e w13 ⟨v232, rfl, ho0, hb⟩; refine ⟨_, rfl, ?_⟩; have n0_ := Aside0.mk (Kd.S_elder' (by (with_reducible repeat (first | apply Kd.S_alloc | apply Kd.S_drewN | apply Kd.S_drew)); exact HO228.out) (Kd.S_base ho0) hb); have n1_ := Aside0.mk (Kd.S_lower (Kd.S_new' ho0 (Kd.S_lt (by (with_reducible repeat (first | apply Kd.S_alloc | apply Kd.S_drewN | apply Kd.S_drew)); exact HO228.out))) (below_size (by repeat (first | (with_reducible first | exact HB.out | apply below_alloc | apply pw_below_drewN | apply below_drew1) | exact HB.out)))); have n2_ := Aside0.mk (below_step (by repeat (first | (with_reducible first | exact HB.out | apply below_alloc | apply pw_below_drewN | apply below_drew1) | exact HB.out)) hb); clear HO228; clear HB; have HO228 := n0_; have HO233 := n1_; have HB := n2_; clear n0_ n1_ n2_; (try clear hb); (try clear hb2); (try clear hk); (try clear hi); (try clear ho0); obtain ⟨Ao14, co14, eo14⟩ := Kd.S_slice HO228.out; subst eo14; have p234 : 0 ≤ (0 : Int) := (by omega); have q234 : 0 < (t224.length : Int) := of_decide_eq_true (by first | (with_reducible assumption) | assumption); obtain ⟨ad234, A234_3, c234_3, A234_6, c234_6, e234, hx234_0, hx234_1, hx234_2, hx234_3, hx234_4, hx234_5, hx234_6, hx234_7, hx234_8, hx234_9, hx234_10, hx234_11, hl234_3, hi234_3, hl234_6, hi234_6⟩ := at_T45 (Kd.S_reads' HO228.out).2.2 0 p234 q234; cases e234; obtain ⟨ce234, hce234, hMe234, hcc234⟩ := Kd.S_get HO228.out z45 0 p234 (by first | exact q234 | exact of_decide_eq_true (by first | (with_reducible assumption) | assumption) | (have e_ := (Kd.S_reads' HO228.out).1; omega)); obtain ⟨ve234_3, ve234_6, rfl, ge234_3, ge234_6⟩ := k45_openM hMe234; have hv234_3 := hcc234 3 _ rfl; rw [add_field _ _ 3 (by omega)] at hv234_3; replace hv234_3 := Option.some.inj (hv234_3.symm.trans hx234_3); rw [hv234_3] at ge234_3; have HL234_3 := Aside0.mk (show Kd.R k87 87 _ _ _ _ ((rd_T45 t224 0).f1.f2) from ge234_3); clear hv234_3 ge234_3; have hv234_6 := hcc234 6 _ rfl; rw [add_field _ _ 6 (by omega)] at hv234_6; replace hv234_6 := Option.some.inj (hv234_6.symm.trans hx234_6); rw [hv234_6] at ge234_6; have HL234_6 := Aside0.mk (show Kd.R Kd.string 9 _ _ _ _ ((rd_T45 t224 0).f4) from ge234_6); clear hv234_6 ge234_6; clear hcc234 hce234; have qi234 : (0 < t224.length) = True := eq_true (by omega); (try rw [show ((0 : Int)).toNat = 0 from rfl] at hx234_0); (try rw [show 0 * 12 = 0 from rfl] at hx234_0); (try rw [Addr.add_zero'] at hx234_0); (try rw [show ((0 : Int)).toNat = 0 from rfl] at hx234_1); (try rw [show 0 * 12 = 0 from rfl] at hx234_1); (try rw [Addr.add_zero'] at hx234_1); (try rw [show ((0 : Int)).toNat = 0 from rfl] at hx234_2); (try rw [show 0 * 12 = 0 from rfl] at hx234_2); (try rw [Addr.add_zero'] at hx234_2); (try rw [show ((0 : Int)).toNat = 0 from rfl] at hx234_3); (try rw [show 0 * 12 = 0 from rfl] at hx234_3); (try rw [Addr.add_zero'] at hx234_3); (try rw [show ((0 : Int)).toNat = 0 from rfl] at hx234_4); (try rw [show 0 * 12 = 0 from rfl] at hx234_4); (try rw [Addr.add_zero'] at hx234_4); (try rw [show ((0 : Int)).toNat = 0 from rfl] at hx234_5); (try rw [show 0 * 12 = 0 from rfl] at hx234_5); (try rw [Addr.add_zero'] at hx234_5); (try rw [show ((0 : Int)).toNat = 0 from rfl] at hx234_6); (try rw [show 0 * 12 = 0 from rfl] at hx234_6); (try rw [Addr.add_zero'] at hx234_6); (try rw [show ((0 : Int)).toNat = 0 from rfl] at hx234_7); (try rw [show 0 * 12 = 0 from rfl] at hx234_7); (try rw [Addr.add_zero'] at hx234_7); (try rw [show ((0 : Int)).toNat = 0 from rfl] at hx234_8); (try rw [show 0 * 12 = 0 from rfl] at hx234_8); (try rw [Addr.add_zero'] at hx234_8); (try rw [show ((0 : Int)).toNat = 0 from rfl] at hx234_9); (try rw [show 0 * 12 = 0 from rfl] at hx234_9); (try rw [Addr.add_zero'] at hx234_9); (try rw [show ((0 : Int)).toNat = 0 from rfl] at hx234_10); (try rw [show 0 * 12 = 0 from rfl] at hx234_10); (try rw [Addr.add_zero'] at hx234_10); (try rw [show ((0 : Int)).toNat = 0 from rfl] at hx234_11); (try rw [show 0 * 12 = 0 from rfl] at hx234_11); (try rw [Addr.add_zero'] at hx234_11); have HR234_3 := Aside0.mk hi234_3; have HC234_3 := Aside0.mk hl234_3; clear hi234_3 hl234_3; have HR234_6 := Aside0.mk hi234_6; have HC234_6 := Aside0.mk hl234_6; clear hi234_6 hl234_6; replace p234 := eq_true p234; replace q234 := eq_true q234; have p235 : 0 ≤ (0 : Int) := (by omega); have q235 : 0 < (t224.length : Int) := of_decide_eq_true (by first | (with_reducible assumption) | assumption); obtain ⟨ad235, A235_3, c235_3, A235_6, c235_6, e235, hx235_0, hx235_1, hx235_2, hx235_3, hx235_4, hx235_5, hx235_6, hx235_7, hx235_8, hx235_9, hx235_10, hx235_11, hl235_3, hi235_3, hl235_6, hi235_6⟩ := at_T45 (Kd.S_reads' HO228.out).2.2 0 p235 q235; obtain rfl : ad234 = ad235 := (by injection e235); obtain ⟨ce235, hce235, hMe235, hcc235⟩ := Kd.S_get HO228.out z45 0 p235 (by first | exact q235 | exact of_decide_eq_true (by first | (with_reducible assumption) | assumption) | (have e_ := (Kd.S_reads' HO228.out).1; omega)); obtain ⟨ve235_3, ve235_6, rfl, ge235_3, ge235_6⟩ := k45_openM hMe235; have hv235_3 := hcc235 3 _ rfl; rw [add_field _ _ 3 (by omega)] at hv235_3; replace hv235_3 := Option.some.inj (hv235_3.symm.trans hx235_3); rw [hv235_3] at ge235_3; have HL235_3 := Aside0.mk (show Kd.R k87 87 _ _ _ _ ((rd_T45 t224 0).f1.f2) from ge235_3); clear hv235_3 ge235_3; have hv235_6 := hcc235 6 _ rfl; rw [add_field _ _ 6 (by omega)] at hv235_6; replace hv235_6 := Option.some.inj (hv235_6.symm.trans hx235_6); rw [hv235_6] at ge235_6; have HL235_6 := Aside0.mk (show Kd.R Kd.string 9 _ _ _ _ ((rd_T45 t224 0).f4) from ge235_6); clear hv235_6 ge235_6; clear hcc235 hce235; have qi235 : (0 < t224.length) = True := eq_true (by omega); (try rw [show ((0 : Int)).toNat = 0 from rfl] at hx235_0); (try rw [show 0 * 12 = 0 from rfl] at hx235_0); (try rw [Addr.add_zero'] at hx235_0); (try rw [show ((0 : Int)).toNat = 0 from rfl] at hx235_1); (try rw [show 0 * 12 = 0 from rfl] at hx235_1); (try rw [Addr.add_zero'] at hx235_1); (try rw [show ((0 : Int)).toNat = 0 from rfl] at hx235_2); (try rw [show 0 * 12 = 0 from rfl] at hx235_2); (try rw [Addr.add_zero'] at hx235_2); (try rw [show ((0 : Int)).toNat = 0 from rfl] at hx235_3); (try rw [show 0 * 12 = 0 from rfl] at hx235_3); (try rw [Addr.add_zero'] at hx235_3); (try rw [show ((0 : Int)).toNat = 0 from rfl] at hx235_4); (try rw [show 0 * 12 = 0 from rfl] at hx235_4); (try rw [Addr.add_zero'] at hx235_4); (try rw [show ((0 : Int)).toNat = 0 from rfl] at hx235_5); (try rw [show 0 * 12 = 0 from rfl] at hx235_5); (try rw [Addr.add_zero'] at hx235_5); (try rw [show ((0 : Int)).toNat = 0 from rfl] at hx235_6); (try rw [show 0 * 12 = 0 from rfl] at hx235_6); (try rw [Addr.add_zero'] at hx235_6); (try rw [show ((0 : Int)).toNat = 0 from rfl] at hx235_7); (try rw [show 0 * 12 = 0 from rfl] at hx235_7); (try rw [Addr.add_zero'] at hx235_7); (try rw [show ((0 : Int)).toNat = 0 from rfl] at hx235_8); (try rw [show 0 * 12 = 0 from rfl] at hx235_8); (try rw [Addr.add_zero'] at hx235_8); (try rw [show ((0 : Int)).toNat = 0 from rfl] at hx235_9); (try rw [show 0 * 12 = 0 from rfl] at hx235_9); (try rw [Addr.add_zero'] at hx235_9); (try rw [show ((0 : Int)).toNat = 0 from rfl] at hx235_10); (try rw [show 0 * 12 = 0 from rfl] at hx235_10); (try rw [Addr.add_zero'] at hx235_10); (try rw [show ((0 : Int)).toNat = 0 from rfl] at hx235_11); (try rw [show 0 * 12 = 0 from rfl] at hx235_11); (try rw [Addr.add_zero'] at hx235_11); have HR235_3 := Aside0.mk hi235_3; have HC235_3 := Aside0.mk hl235_3; clear hi235_3 hl235_3; have HR235_6 := Aside0.mk hi235_6; have HC235_6 := Aside0.mk hl235_6; clear hi235_6 hl235_6; replace p235 := eq_true p235; replace q235 := eq_true q235; have ea_ := Option.some.inj (hx234_3.symm.trans hx235_3); injection ea_ with ea_ en_ ec_; subst ea_; subst ec_; clear en_; have ea_ := Option.some.inj (hx234_6.symm.trans hx235_6); injection ea_ with ea_ en_ ec_; subst ea_; subst ec_; clear en_))
              go_ret
              exact ⟨by first | rfl | (simp [errW_none, errW_some] <;> rfl) | (simp [*, errW_none, errW_some] <;> rfl), by repeat (first | (with_reducible first | exact HB.out | apply below_alloc | apply pw_below_drewN | apply below_drew1) | exact HB.out)⟩
          · rw [if_neg c7] at H
            have c7b0 : (((rd_T45 t224 0).f6) == 5) = false := beq_eq_false_iff_ne.mpr c7
            have c7b1 : (((rd_T45 t224 0).f6) != 5) = true := bne_iff_ne.mpr c7
            obtain rfl := Option.some.inj H
            go_enter Try.func12, Try.ntmps12
            go_wp2_with (first | ((with_reducible refine gate_callee (f := 19) rfl ?_); refine goesL_ (some 8) rfl rfl Try.func19 (by kernel_rfl) rfl #[.string (⟨#[116, 105, 99, 107, 32, 53, 59]⟩ : ByteArray)] rfl (by (try simp only [List.map_toArray, List.map_cons, List.map_nil]); first | done | rfl | (simp only [List.length_drop, List.length_take]; rfl)) ?_; (with_reducible refine (say_Script.calls k (⟨#[116, 105, 99, 107, 32, 53, 59]⟩ : ByteArray) t224 t225 t226 _ A1.out).mono ?_); rintro e w15 ⟨v227, rfl, ho0, hb⟩; refine ⟨_, rfl, ?_⟩; have n0_ := Aside0.mk (Kd.S_lower ho0 (below_size (by repeat (first | (with_reducible first | exact HB.out | apply below_alloc | apply pw_below_drewN | apply below_drew1) | exact HB.out)))); have n1_ := Aside0.mk (below_step (by repeat (first | (with_reducible first | exact HB.out | apply below_alloc | apply pw_below_drewN | apply below_drew1) | exact HB.out)) hb); clear HB; have HO228 := n0_; have HB := n1_; clear n0_ n1_; (try clear hb); (try clear hb2); (try clear hk); (try clear hi); (try clear ho0)) | ((with_reducible refine gate_callee (f := 19) rfl ?_); refine goesL_ (some 13) rfl rfl Try.func19 (by kernel_rfl) rfl #[.string (⟨#[116, 105, 99, 107, 32, 45, 48, 59]⟩ : ByteArray)] rfl (by (try simp only [List.map_toArray, List.map_cons, List.map_nil]); first | done | rfl | (simp only [List.length_drop, List.length_take]; rfl)) ?_; (with_reducible refine (say_Script.calls k (⟨#[116, 105, 99, 107, 32, 45, 48, 59]⟩ : ByteArray) t229 t230 t231 _ A2.out).mono ?_); rintro e w16 ⟨v232, rfl, ho0, hb⟩; refine ⟨_, rfl, ?_⟩; have n0_ := Aside0.mk (Kd.S_elder' (by (with_reducible repeat (first | apply Kd.S_alloc | apply Kd.S_drewN | apply Kd.S_drew)); exact HO228.out) (Kd.S_base ho0) hb); have n1_ := Aside0.mk (Kd.S_lower (Kd.S_new' ho0 (Kd.S_lt (by (with_reducible repeat (first | apply Kd.S_alloc | apply Kd.S_drewN | apply Kd.S_drew)); exact HO228.out))) (below_size (by repeat (first | (with_reducible first | exact HB.out | apply below_alloc | apply pw_below_drewN | apply below_drew1) | exact HB.out)))); have n2_ := Aside0.mk (below_step (by repeat (first | (with_reducible first | exact HB.out | apply below_alloc | apply pw_below_drewN | apply below_drew1) | exact HB.out)) hb); clear HO228; clear HB; have HO228 := n0_; have HO233 := n1_; have HB := n2_; clear n0_ n1_ n2_; (try clear hb); (try clear hb2); (try clear hk); (try clear hi); (try clear ho0); obtain ⟨Ao17, co17, eo17⟩ := Kd.S_slice HO228.out; subst eo17; have p234 : 0 ≤ (0 : Int) := (by omega); have q234 : 0 < (t224.length : Int) := of_decide_eq_true (by first | (with_reducible assumption) | assumption); obtain ⟨ad234, A234_3, c234_3, A234_6, c234_6, e234, hx234_0, hx234_1, hx234_2, hx234_3, hx234_4, hx234_5, hx234_6, hx234_7, hx234_8, hx234_9, hx234_10, hx234_11, hl234_3, hi234_3, hl234_6, hi234_6⟩ := at_T45 (Kd.S_reads' HO228.out).2.2 0 p234 q234; cases e234; obtain ⟨ce234, hce234, hMe234, hcc234⟩ := Kd.S_get HO228.out z45 0 p234 (by first | exact q234 | exact of_decide_eq_true (by first | (with_reducible assumption) | assumption) | (have e_ := (Kd.S_reads' HO228.out).1; omega)); obtain ⟨ve234_3, ve234_6, rfl, ge234_3, ge234_6⟩ := k45_openM hMe234; have hv234_3 := hcc234 3 _ rfl; rw [add_field _ _ 3 (by omega)] at hv234_3; replace hv234_3 := Option.some.inj (hv234_3.symm.trans hx234_3); rw [hv234_3] at ge234_3; have HL234_3 := Aside0.mk (show Kd.R k87 87 _ _ _ _ ((rd_T45 t224 0).f1.f2) from ge234_3); clear hv234_3 ge234_3; have hv234_6 := hcc234 6 _ rfl; rw [add_field _ _ 6 (by omega)] at hv234_6; replace hv234_6 := Option.some.inj (hv234_6.symm.trans hx234_6); rw [hv234_6] at ge234_6; have HL234_6 := Aside0.mk (show Kd.R Kd.string 9 _ _ _ _ ((rd_T45 t224 0).f4) from ge234_6); clear hv234_6 ge234_6; clear hcc234 hce234; have qi234 : (0 < t224.length) = True := eq_true (by omega); (try rw [show ((0 : Int)).toNat = 0 from rfl] at hx234_0); (try rw [show 0 * 12 = 0 from rfl] at hx234_0); (try rw [Addr.add_zero'] at hx234_0); (try rw [show ((0 : Int)).toNat = 0 from rfl] at hx234_1); (try rw [show 0 * 12 = 0 from rfl] at hx234_1); (try rw [Addr.add_zero'] at hx234_1); (try rw [show ((0 : Int)).toNat = 0 from rfl] at hx234_2); (try rw [show 0 * 12 = 0 from rfl] at hx234_2); (try rw [Addr.add_zero'] at hx234_2); (try rw [show ((0 : Int)).toNat = 0 from rfl] at hx234_3); (try rw [show 0 * 12 = 0 from rfl] at hx234_3); (try rw [Addr.add_zero'] at hx234_3); (try rw [show ((0 : Int)).toNat = 0 from rfl] at hx234_4); (try rw [show 0 * 12 = 0 from rfl] at hx234_4); (try rw [Addr.add_zero'] at hx234_4); (try rw [show ((0 : Int)).toNat = 0 from rfl] at hx234_5); (try rw [show 0 * 12 = 0 from rfl] at hx234_5); (try rw [Addr.add_zero'] at hx234_5); (try rw [show ((0 : Int)).toNat = 0 from rfl] at hx234_6); (try rw [show 0 * 12 = 0 from rfl] at hx234_6); (try rw [Addr.add_zero'] at hx234_6); (try rw [show ((0 : Int)).toNat = 0 from rfl] at hx234_7); (try rw [show 0 * 12 = 0 from rfl] at hx234_7); (try rw [Addr.add_zero'] at hx234_7); (try rw [show ((0 : Int)).toNat = 0 from rfl] at hx234_8); (try rw [show 0 * 12 = 0 from rfl] at hx234_8); (try rw [Addr.add_zero'] at hx234_8); (try rw [show ((0 : Int)).toNat = 0 from rfl] at hx234_9); (try rw [show 0 * 12 = 0 from rfl] at hx234_9); (try rw [Addr.add_zero'] at hx234_9); (try rw [show ((0 : Int)).toNat = 0 from rfl] at hx234_10); (try rw [show 0 * 12 = 0 from rfl] at hx234_10); (try rw [Addr.add_zero'] at hx234_10); (try rw [show ((0 : Int)).toNat = 0 from rfl] at hx234_11); (try rw [show 0 * 12 = 0 from rfl] at hx234_11); (try rw [Addr.add_zero'] at hx234_11); have HR234_3 := Aside0.mk hi234_3; have HC234_3 := Aside0.mk hl234_3; clear hi234_3 hl234_3; have HR234_6 := Aside0.mk hi234_6; have HC234_6 := Aside0.mk hl234_6; clear hi234_6 hl234_6; replace p234 := eq_true p234; replace q234 := eq_true q234; have p235 : 0 ≤ (0 : Int) := (by omega); have q235 : 0 < (t224.length : Int) := of_decide_eq_true (by first | (with_reducible assumption) | assumption); obtain ⟨ad235, A235_3, c235_3, A235_6, c235_6, e235, hx235_0, hx235_1, hx235_2, hx235_3, hx235_4, hx235_5, hx235_6, hx235_7, hx235_8, hx235_9, hx235_10, hx235_11, hl235_3, hi235_3, hl235_6, hi235_6⟩ := at_T45 (Kd.S_reads' HO228.out).2.2 0 p235 q235; obtain rfl : ad234 = ad235 := (by injection e235); obtain ⟨ce235, hce235, hMe235, hcc235⟩ := Kd.S_get HO228.out z45 0 p235 (by first | exact q235 | exact of_decide_eq_true (by first | (with_reducible assumption) | assumption) | (have e_ := (Kd.S_reads' HO228.out).1; omega)); obtain ⟨ve235_3, ve235_6, rfl, ge235_3, ge235_6⟩ := k45_openM hMe235; have hv235_3 := hcc235 3 _ rfl; rw [add_field _ _ 3 (by omega)] at hv235_3; replace hv235_3 := Option.some.inj (hv235_3.symm.trans hx235_3); rw [hv235_3] at ge235_3; have HL235_3 := Aside0.mk (show Kd.R k87 87 _ _ _ _ ((rd_T45 t224 0).f1.f2) from ge235_3); clear hv235_3 ge235_3; have hv235_6 := hcc235 6 _ rfl; rw [add_field _ _ 6 (by omega)] at hv235_6; replace hv235_6 := Option.some.inj (hv235_6.symm.trans hx235_6); rw [hv235_6] at ge235_6; have HL235_6 := Aside0.mk (show Kd.R Kd.string 9 _ _ _ _ ((rd_T45 t224 0).f4) from ge235_6); clear hv235_6 ge235_6; clear hcc235 hce235; have qi235 : (0 < t224.length) = True := eq_true (by omega); (try rw [show ((0 : Int)).toNat = 0 from rfl] at hx235_0); (try rw [show 0 * 12 = 0 from rfl] at hx235_0); (try rw [Addr.add_zero'] at hx235_0); (try rw [show ((0 : Int)).toNat = 0 from rfl] at hx235_1); (try rw [show 0 * 12 = 0 from rfl] at hx235_1); (try rw [Addr.add_zero'] at hx235_1); (try rw [show ((0 : Int)).toNat = 0 from rfl] at hx235_2); (try rw [show 0 * 12 = 0 from rfl] at hx235_2); (try rw [Addr.add_zero'] at hx235_2); (try rw [show ((0 : Int)).toNat = 0 from rfl] at hx235_3); (try rw [show 0 * 12 = 0 from rfl] at hx235_3); (try rw [Addr.add_zero'] at hx235_3); (try rw [show ((0 : Int)).toNat = 0 from rfl] at hx235_4); (try rw [show 0 * 12 = 0 from rfl] at hx235_4); (try rw [Addr.add_zero'] at hx235_4); (try rw [show ((0 : Int)).toNat = 0 from rfl] at hx235_5); (try rw [show 0 * 12 = 0 from rfl] at hx235_5); (try rw [Addr.add_zero'] at hx235_5); (try rw [show ((0 : Int)).toNat = 0 from rfl] at hx235_6); (try rw [show 0 * 12 = 0 from rfl] at hx235_6); (try rw [Addr.add_zero'] at hx235_6); (try rw [show ((0 : Int)).toNat = 0 from rfl] at hx235_7); (try rw [show 0 * 12 = 0 from rfl] at hx235_7); (try rw [Addr.add_zero'] at hx235_7); (try rw [show ((0 : Int)).toNat = 0 from rfl] at hx235_8); (try rw [show 0 * 12 = 0 from rfl] at hx235_8); (try rw [Addr.add_zero'] at hx235_8); (try rw [show ((0 : Int)).toNat = 0 from rfl] at hx235_9); (try rw [show 0 * 12 = 0 from rfl] at hx235_9); (try rw [Addr.add_zero'] at hx235_9); (try rw [show ((0 : Int)).toNat = 0 from rfl] at hx235_10); (try rw [show 0 * 12 = 0 from rfl] at hx235_10); (try rw [Addr.add_zero'] at hx235_10); (try rw [show ((0 : Int)).toNat = 0 from rfl] at hx235_11); (try rw [show 0 * 12 = 0 from rfl] at hx235_11); (try rw [Addr.add_zero'] at hx235_11); have HR235_3 := Aside0.mk hi235_3; have HC235_3 := Aside0.mk hl235_3; clear hi235_3 hl235_3; have HR235_6 := Aside0.mk hi235_6; have HC235_6 := Aside0.mk hl235_6; clear hi235_6 hl235_6; replace p235 := eq_true p235; replace q235 := eq_true q235; have ea_ := Option.some.inj (hx234_3.symm.trans hx235_3); injection ea_ with ea_ en_ ec_; subst ea_; subst ec_; clear en_; have ea_ := Option.some.inj (hx234_6.symm.trans hx235_6); injection ea_ with ea_ en_ ec_; subst ea_; subst ec_; clear en_))
            go_ret
            exact ⟨by first | rfl | (simp [errW_none, errW_some] <;> rfl) | (simp [*, errW_none, errW_some] <;> rfl), by repeat (first | (with_reducible first | exact HB.out | apply below_alloc | apply pw_below_drewN | apply below_drew1) | exact HB.out)⟩
        · rw [if_neg c6] at H
          have c6b0 : (((rd_T45 t224 0).f0) == 8) = false := beq_eq_false_iff_ne.mpr c6
          have c6b1 : (((rd_T45 t224 0).f0) != 8) = true := bne_iff_ne.mpr c6
          obtain rfl := Option.some.inj H
          go_enter Try.func12, Try.ntmps12
          go_wp2_with (first | ((with_reducible refine gate_callee (f := 19) rfl ?_); refine goesL_ (some 8) rfl rfl Try.func19 (by kernel_rfl) rfl #[.string (⟨#[116, 105, 99, 107, 32, 53, 59]⟩ : ByteArray)] rfl (by (try simp only [List.map_toArray, List.map_cons, List.map_nil]); first | done | rfl | (simp only [List.length_drop, List.length_take]; rfl)) ?_; (with_reducible refine (say_Script.calls k (⟨#[116, 105, 99, 107, 32, 53, 59]⟩ : ByteArray) t224 t225 t226 _ A1.out).mono ?_); rintro e w18 ⟨v227, rfl, ho0, hb⟩; refine ⟨_, rfl, ?_⟩; have n0_ := Aside0.mk (Kd.S_lower ho0 (below_size (by repeat (first | (with_reducible first | exact HB.out | apply below_alloc | apply pw_below_drewN | apply below_drew1) | exact HB.out)))); have n1_ := Aside0.mk (below_step (by repeat (first | (with_reducible first | exact HB.out | apply below_alloc | apply pw_below_drewN | apply below_drew1) | exact HB.out)) hb); clear HB; have HO228 := n0_; have HB := n1_; clear n0_ n1_; (try clear hb); (try clear hb2); (try clear hk); (try clear hi); (try clear ho0)) | ((with_reducible refine gate_callee (f := 19) rfl ?_); refine goesL_ (some 13) rfl rfl Try.func19 (by kernel_rfl) rfl #[.string (⟨#[116, 105, 99, 107, 32, 45, 48, 59]⟩ : ByteArray)] rfl (by (try simp only [List.map_toArray, List.map_cons, List.map_nil]); first | done | rfl | (simp only [List.length_drop, List.length_take]; rfl)) ?_; (with_reducible refine (say_Script.calls k (⟨#[116, 105, 99, 107, 32, 45, 48, 59]⟩ : ByteArray) t229 t230 t231 _ A2.out).mono ?_); rintro e w19 ⟨v232, rfl, ho0, hb⟩; refine ⟨_, rfl, ?_⟩; have n0_ := Aside0.mk (Kd.S_elder' (by (with_reducible repeat (first | apply Kd.S_alloc | apply Kd.S_drewN | apply Kd.S_drew)); exact HO228.out) (Kd.S_base ho0) hb); have n1_ := Aside0.mk (Kd.S_lower (Kd.S_new' ho0 (Kd.S_lt (by (with_reducible repeat (first | apply Kd.S_alloc | apply Kd.S_drewN | apply Kd.S_drew)); exact HO228.out))) (below_size (by repeat (first | (with_reducible first | exact HB.out | apply below_alloc | apply pw_below_drewN | apply below_drew1) | exact HB.out)))); have n2_ := Aside0.mk (below_step (by repeat (first | (with_reducible first | exact HB.out | apply below_alloc | apply pw_below_drewN | apply below_drew1) | exact HB.out)) hb); clear HO228; clear HB; have HO228 := n0_; have HO233 := n1_; have HB := n2_; clear n0_ n1_ n2_; (try clear hb); (try clear hb2); (try clear hk); (try clear hi); (try clear ho0); obtain ⟨Ao20, co20, eo20⟩ := Kd.S_slice HO228.out; subst eo20; have p234 : 0 ≤ (0 : Int) := (by omega); have q234 : 0 < (t224.length : Int) := of_decide_eq_true (by first | (with_reducible assumption) | assumption); obtain ⟨ad234, A234_3, c234_3, A234_6, c234_6, e234, hx234_0, hx234_1, hx234_2, hx234_3, hx234_4, hx234_5, hx234_6, hx234_7, hx234_8, hx234_9, hx234_10, hx234_11, hl234_3, hi234_3, hl234_6, hi234_6⟩ := at_T45 (Kd.S_reads' HO228.out).2.2 0 p234 q234; cases e234; obtain ⟨ce234, hce234, hMe234, hcc234⟩ := Kd.S_get HO228.out z45 0 p234 (by first | exact q234 | exact of_decide_eq_true (by first | (with_reducible assumption) | assumption) | (have e_ := (Kd.S_reads' HO228.out).1; omega)); obtain ⟨ve234_3, ve234_6, rfl, ge234_3, ge234_6⟩ := k45_openM hMe234; have hv234_3 := hcc234 3 _ rfl; rw [add_field _ _ 3 (by omega)] at hv234_3; replace hv234_3 := Option.some.inj (hv234_3.symm.trans hx234_3); rw [hv234_3] at ge234_3; have HL234_3 := Aside0.mk (show Kd.R k87 87 _ _ _ _ ((rd_T45 t224 0).f1.f2) from ge234_3); clear hv234_3 ge234_3; have hv234_6 := hcc234 6 _ rfl; rw [add_field _ _ 6 (by omega)] at hv234_6; replace hv234_6 := Option.some.inj (hv234_6.symm.trans hx234_6); rw [hv234_6] at ge234_6; have HL234_6 := Aside0.mk (show Kd.R Kd.string 9 _ _ _ _ ((rd_T45 t224 0).f4) from ge234_6); clear hv234_6 ge234_6; clear hcc234 hce234; have qi234 : (0 < t224.length) = True := eq_true (by omega); (try rw [show ((0 : Int)).toNat = 0 from rfl] at hx234_0); (try rw [show 0 * 12 = 0 from rfl] at hx234_0); (try rw [Addr.add_zero'] at hx234_0); (try rw [show ((0 : Int)).toNat = 0 from rfl] at hx234_1); (try rw [show 0 * 12 = 0 from rfl] at hx234_1); (try rw [Addr.add_zero'] at hx234_1); (try rw [show ((0 : Int)).toNat = 0 from rfl] at hx234_2); (try rw [show 0 * 12 = 0 from rfl] at hx234_2); (try rw [Addr.add_zero'] at hx234_2); (try rw [show ((0 : Int)).toNat = 0 from rfl] at hx234_3); (try rw [show 0 * 12 = 0 from rfl] at hx234_3); (try rw [Addr.add_zero'] at hx234_3); (try rw [show ((0 : Int)).toNat = 0 from rfl] at hx234_4); (try rw [show 0 * 12 = 0 from rfl] at hx234_4); (try rw [Addr.add_zero'] at hx234_4); (try rw [show ((0 : Int)).toNat = 0 from rfl] at hx234_5); (try rw [show 0 * 12 = 0 from rfl] at hx234_5); (try rw [Addr.add_zero'] at hx234_5); (try rw [show ((0 : Int)).toNat = 0 from rfl] at hx234_6); (try rw [show 0 * 12 = 0 from rfl] at hx234_6); (try rw [Addr.add_zero'] at hx234_6); (try rw [show ((0 : Int)).toNat = 0 from rfl] at hx234_7); (try rw [show 0 * 12 = 0 from rfl] at hx234_7); (try rw [Addr.add_zero'] at hx234_7); (try rw [show ((0 : Int)).toNat = 0 from rfl] at hx234_8); (try rw [show 0 * 12 = 0 from rfl] at hx234_8); (try rw [Addr.add_zero'] at hx234_8); (try rw [show ((0 : Int)).toNat = 0 from rfl] at hx234_9); (try rw [show 0 * 12 = 0 from rfl] at hx234_9); (try rw [Addr.add_zero'] at hx234_9); (try rw [show ((0 : Int)).toNat = 0 from rfl] at hx234_10); (try rw [show 0 * 12 = 0 from rfl] at hx234_10); (try rw [Addr.add_zero'] at hx234_10); (try rw [show ((0 : Int)).toNat = 0 from rfl] at hx234_11); (try rw [show 0 * 12 = 0 from rfl] at hx234_11); (try rw [Addr.add_zero'] at hx234_11); have HR234_3 := Aside0.mk hi234_3; have HC234_3 := Aside0.mk hl234_3; clear hi234_3 hl234_3; have HR234_6 := Aside0.mk hi234_6; have HC234_6 := Aside0.mk hl234_6; clear hi234_6 hl234_6; replace p234 := eq_true p234; replace q234 := eq_true q234))
          go_ret
          exact ⟨by first | rfl | (simp [errW_none, errW_some] <;> rfl) | (simp [*, errW_none, errW_some] <;> rfl), by repeat (first | (with_reducible first | exact HB.out | apply below_alloc | apply pw_below_drewN | apply below_drew1) | exact HB.out)⟩
      · rw [if_neg c5] at H
        exact absurd H (by simp)
    · rw [if_neg c4] at H
      have c4b0 : ((t224.length : Int) == 1) = false := beq_eq_false_iff_ne.mpr c4
      have c4b1 : ((t224.length : Int) != 1) = true := bne_iff_ne.mpr c4
      obtain rfl := Option.some.inj H
      go_enter Try.func12, Try.ntmps12
      go_wp2_with (first | ((with_reducible refine gate_callee (f := 19) rfl ?_); refine goesL_ (some 8) rfl rfl Try.func19 (by kernel_rfl) rfl #[.string (⟨#[116, 105, 99, 107, 32, 53, 59]⟩ : ByteArray)] rfl (by (try simp only [List.map_toArray, List.map_cons, List.map_nil]); first | done | rfl | (simp only [List.length_drop, List.length_take]; rfl)) ?_; (with_reducible refine (say_Script.calls k (⟨#[116, 105, 99, 107, 32, 53, 59]⟩ : ByteArray) t224 t225 t226 _ A1.out).mono ?_); rintro e w21 ⟨v227, rfl, ho0, hb⟩; refine ⟨_, rfl, ?_⟩; have n0_ := Aside0.mk (Kd.S_lower ho0 (below_size (by repeat (first | (with_reducible first | exact HB.out | apply below_alloc | apply pw_below_drewN | apply below_drew1) | exact HB.out)))); have n1_ := Aside0.mk (below_step (by repeat (first | (with_reducible first | exact HB.out | apply below_alloc | apply pw_below_drewN | apply below_drew1) | exact HB.out)) hb); clear HB; have HO228 := n0_; have HB := n1_; clear n0_ n1_; (try clear hb); (try clear hb2); (try clear hk); (try clear hi); (try clear ho0)) | ((with_reducible refine gate_callee (f := 19) rfl ?_); refine goesL_ (some 13) rfl rfl Try.func19 (by kernel_rfl) rfl #[.string (⟨#[116, 105, 99, 107, 32, 45, 48, 59]⟩ : ByteArray)] rfl (by (try simp only [List.map_toArray, List.map_cons, List.map_nil]); first | done | rfl | (simp only [List.length_drop, List.length_take]; rfl)) ?_; (with_reducible refine (say_Script.calls k (⟨#[116, 105, 99, 107, 32, 45, 48, 59]⟩ : ByteArray) t229 t230 t231 _ A2.out).mono ?_); rintro e w22 ⟨v232, rfl, ho0, hb⟩; refine ⟨_, rfl, ?_⟩; have n0_ := Aside0.mk (Kd.S_elder' (by (with_reducible repeat (first | apply Kd.S_alloc | apply Kd.S_drewN | apply Kd.S_drew)); exact HO228.out) (Kd.S_base ho0) hb); have n1_ := Aside0.mk (Kd.S_lower (Kd.S_new' ho0 (Kd.S_lt (by (with_reducible repeat (first | apply Kd.S_alloc | apply Kd.S_drewN | apply Kd.S_drew)); exact HO228.out))) (below_size (by repeat (first | (with_reducible first | exact HB.out | apply below_alloc | apply pw_below_drewN | apply below_drew1) | exact HB.out)))); have n2_ := Aside0.mk (below_step (by repeat (first | (with_reducible first | exact HB.out | apply below_alloc | apply pw_below_drewN | apply below_drew1) | exact HB.out)) hb); clear HO228; clear HB; have HO228 := n0_; have HO233 := n1_; have HB := n2_; clear n0_ n1_ n2_; (try clear hb); (try clear hb2); (try clear hk); (try clear hi); (try clear ho0); obtain ⟨Ao23, co23, eo23⟩ := Kd.S_slice HO228.out; subst eo23))
      go_ret
      exact ⟨by first | rfl | (simp [errW_none, errW_some] <;> rfl) | (simp [*, errW_none, errW_some] <;> rfl), by repeat (first | (with_reducible first | exact HB.out | apply below_alloc | apply pw_below_drewN | apply below_drew1) | exact HB.out)⟩
  · rw [if_neg c3] at H
    have c3b0 : (t226 == 0) = false := beq_eq_false_iff_ne.mpr c3
    have c3b1 : (t226 != 0) = true := bne_iff_ne.mpr c3
    obtain rfl := Option.some.inj H
    go_enter Try.func12, Try.ntmps12
    go_wp2_with (first | ((with_reducible refine gate_callee (f := 19) rfl ?_); refine goesL_ (some 8) rfl rfl Try.func19 (by kernel_rfl) rfl #[.string (⟨#[116, 105, 99, 107, 32, 53, 59]⟩ : ByteArray)] rfl (by (try simp only [List.map_toArray, List.map_cons, List.map_nil]); first | done | rfl | (simp only [List.length_drop, List.length_take]; rfl)) ?_; (with_reducible refine (say_Script.calls k (⟨#[116, 105, 99, 107, 32, 53, 59]⟩ : ByteArray) t224 t225 t226 _ A1.out).mono ?_); rintro e w24 ⟨v227, rfl, ho0, hb⟩; refine ⟨_, rfl, ?_⟩; have n0_ := Aside0.mk (Kd.S_lower ho0 (below_size (by repeat (first | (with_reducible first | exact HB.out | apply below_alloc | apply pw_below_drewN | apply below_drew1) | exact HB.out)))); have n1_ := Aside0.mk (below_step (by repeat (first | (with_reducible first | exact HB.out | apply below_alloc | apply pw_below_drewN | apply below_drew1) | exact HB.out)) hb); clear HB; have HO228 := n0_; have HB := n1_; clear n0_ n1_; (try clear hb); (try clear hb2); (try clear hk); (try clear hi); (try clear ho0)) | ((with_reducible refine gate_callee (f := 19) rfl ?_); refine goesL_ (some 13) rfl rfl Try.func19 (by kernel_rfl) rfl #[.string (⟨#[116, 105, 99, 107, 32, 45, 48, 59]⟩ : ByteArray)] rfl (by (try simp only [List.map_toArray, List.map_cons, List.map_nil]); first | done | rfl | (simp only [List.length_drop, List.length_take]; rfl)) ?_; (with_reducible refine (say_Script.calls k (⟨#[116, 105, 99, 107, 32, 45, 48, 59]⟩ : ByteArray) t229 t230 t231 _ A2.out).mono ?_); rintro e w25 ⟨v232, rfl, ho0, hb⟩; refine ⟨_, rfl, ?_⟩; have n0_ := Aside0.mk (Kd.S_elder' (by (with_reducible repeat (first | apply Kd.S_alloc | apply Kd.S_drewN | apply Kd.S_drew)); exact HO228.out) (Kd.S_base ho0) hb); have n1_ := Aside0.mk (Kd.S_lower (Kd.S_new' ho0 (Kd.S_lt (by (with_reducible repeat (first | apply Kd.S_alloc | apply Kd.S_drewN | apply Kd.S_drew)); exact HO228.out))) (below_size (by repeat (first | (with_reducible first | exact HB.out | apply below_alloc | apply pw_below_drewN | apply below_drew1) | exact HB.out)))); have n2_ := Aside0.mk (below_step (by repeat (first | (with_reducible first | exact HB.out | apply below_alloc | apply pw_below_drewN | apply below_drew1) | exact HB.out)) hb); clear HO228; clear HB; have HO228 := n0_; have HO233 := n1_; have HB := n2_; clear n0_ n1_ n2_; (try clear hb); (try clear hb2); (try clear hk); (try clear hi); (try clear ho0)))
    go_ret
    exact ⟨by first | rfl | (simp [errW_none, errW_some] <;> rfl) | (simp [*, errW_none, errW_some] <;> rfl), by repeat (first | (with_reducible first | exact HB.out | apply below_alloc | apply pw_below_drewN | apply below_drew1) | exact HB.out)⟩

end Go.Proofs.Ytokkjnfdfbpphaa.A
namespace Go.Proofs.Ytokkjnfdfbpphaa.A
open Go.RowKit Go.Proofs.YtokkjnfdfbpphaaW.PrintWords Go.Proofs.YtokkjnfdfbpphaaW.PrintLast Go.Proofs.YtokkjnfdfbpphaaW.PrintMore
attribute [local go_sem] max2_int min2_int max_two min_two max_three min_three max_four min_four   -- for this text's walks alone
set_option linter.unusedVariables false
set_option linter.unusedSimpArgs false

set_option maxRecDepth 100000 in
set_option maxHeartbeats 4000000 in
theorem scripts_bad (k : Nat) (a0 t : ByteArray) (at_ : Int) (w : World) (ht : chartularylaw23_cut.f a0 = some t) (hs : say_Script.f k t = some ([], at_, 4)) (h0 : 0 ≤ at_) (h1 : at_ ≤ (t.size : Int)) (haw : chartularylaw23_awake.f k = some true) :
    Calls Try.prog 6 #[.string a0] w fun e w' => e = .returned (.bool true) ∧ Below w.heap.size w w' := by
  have HT := Aside0.mk ht
  have HS := Aside0.mk hs
  have HA := Aside0.mk haw
  clear ht hs haw
  go_enter Try.func6, Try.ntmps6
  go_wp2_with fail
  refine (chartularylaw23_cut.calls _ _ _ HT.out).mono ?_
  rintro e w2 ⟨rfl, hq⟩
  obtain ⟨⟨n, rfl⟩⟩ := hq
  have HB : Aside0 (Below w.heap.size w (w.drewN n)) := ⟨pw_below_drewN (Below.refl _ _) n⟩
  go_wp2_with fail
  refine (say_Script.calls k _ _ _ _ _ HS.out).mono ?_
  rintro e w3 ⟨v, rfl, hr, hb⟩
  obtain ⟨Av, cv, rfl⟩ := Kd.S_slice hr
  replace HB := Aside0.mk (below_step HB.out hb)
  clear hr hb
  go_wp2_with fail
  refine (chartularylaw23_awake.calls k _ _ HA.out).mono ?_
  rintro e w4 ⟨rfl, hb⟩
  replace HB := Aside0.mk (below_step HB.out hb)
  clear hb
  go_wp2_with fail
  go_ret
  exact ⟨rfl, HB.out⟩
set_option maxRecDepth 100000 in
set_option maxHeartbeats 8000000 in
theorem scripts_good (k : Nat) (a0 t : ByteArray) (l : List S45) (w : World) (ht : chartularylaw23_cut.f a0 = some t) (hs : say_Script.f k t = some (l, 0, 0)) (hn : l.length ≤ 1000000)
    (hv : ∀ x ∈ l, (Oks x ∧ 1 ≤ x.f0 ∧ x.f0 ≤ 15) ∧ cleanS x = x) (hlen : (allText l).length ≤ 1000000000) (hs2 : say_Script.f k ⟨(allText l).toArray⟩ = some (l, 0, 0)) (haw : chartularylaw23_awake.f k = some true) :
    Calls Try.prog 6 #[.string a0] w fun e w' => e = .returned (.bool true) ∧ Below w.heap.size w w' := by
  have HT := Aside0.mk ht
  have HS := Aside0.mk hs
  have HS2 := Aside0.mk hs2
  have HV := Aside0.mk hv
  have HA := Aside0.mk haw
  have HL := Aside0.mk hlen
  have HN := Aside0.mk hn
  clear ht hs hs2 hv haw hlen
  go_enter Try.func6, Try.ntmps6
  go_wp2_with fail
  refine (chartularylaw23_cut.calls _ _ _ HT.out).mono ?_
  rintro e w2 ⟨rfl, hq⟩
  obtain ⟨⟨n, rfl⟩⟩ := hq
  have HB : Aside0 (Below w.heap.size w (w.drewN n)) := ⟨pw_below_drewN (Below.refl _ _) n⟩
  go_wp2_with fail
  refine (say_Script.calls k _ _ _ _ _ HS.out).mono ?_
  rintro e w3 ⟨v, rfl, hr, hb⟩
  obtain ⟨Av, cv, rfl⟩ := Kd.S_slice hr
  have HC := Aside0.mk (Kd.S_reads' hr).2
  replace HB := Aside0.mk (below_step HB.out hb)
  clear hr hb
  go_wp2_with fail
  refine (printAll_calls l Av cv _ HC.out.2 HC.out.1 HN.out (fun x hx => (HV.out x hx).1) HL.out).mono ?_
  rintro e w4 ⟨rfl, hb⟩
  replace HC := Aside0.mk (And.intro HC.out.1 (Kd.C_below HC.out.2 hb))
  replace HB := Aside0.mk (below_step HB.out hb)
  clear hb
  go_wp2_with fail
  refine (say_Script.calls k _ _ _ _ _ HS2.out).mono ?_
  rintro e w5 ⟨v, rfl, hr, hb⟩
  obtain ⟨Am, cm, rfl⟩ := Kd.S_slice hr
  have HM := Aside0.mk (Kd.S_reads' hr).2
  replace HC := Aside0.mk (And.intro HC.out.1 (Kd.C_below HC.out.2 hb))
  replace HB := Aside0.mk (below_step HB.out hb)
  clear hr hb
  go_wp2_with fail
  go_loopw [10] (fun v10 wr => ∃ i : Nat, i ≤ l.length ∧ v10 = .int .i64 (i : Int) ∧ Aside0 (Below w5.heap.size w5 wr)) (fun v10 _ => l.length - (intOf v10).toNat)
  case atStart => exact ⟨0, Nat.zero_le _, rfl, ⟨Below.refl _ _⟩⟩
  case round =>
    obtain ⟨i, hi, rfl, HW⟩ := hrel
    by_cases hlt : i < l.length
    · obtain ⟨ad, A3, c3, A6, c6, rfl, x0, x1, x2, x3, x4, x5, x6, x7, x8, x9, x10, x11, g3, k3, g6, k6⟩ := at_T45 (Kd.C_below HC.out.2 HW.out) (i : Int) (by omega) (by omega)
      obtain ⟨bd, B3, d3, B6, d6, rfl, y0, y1, y2, y3, y4, y5, y6, y7, y8, y9, y10, y11, h3, j3, h6, j6⟩ := at_T45 (Kd.C_below HM.out.2 HW.out) (i : Int) (by omega) (by omega)
      have hrd : rd_T45 l (i : Int) = l[i] := by simp [rd_T45, List.getD_eq_getElem?_getD, hlt]
      have HX := Aside0.mk (HV.out l[i] (List.getElem_mem hlt))
      rw [hrd, Int.toNat_natCast] at x0 x1 x2 x3 x4 x5 x6 x7 x8 x9 x10 x11 y0 y1 y2 y3 y4 y5 y6 y7 y8 y9 y10 y11
      rw [hrd] at g3 k3 g6 k6 h3 j3 h6 j6
      generalize l[i] = x at HX x0 x1 x2 x3 x4 x5 x6 x7 x8 x9 x10 x11 g3 k3 g6 k6 y0 y1 y2 y3 y4 y5 y6 y7 y8 y9 y10 y11 h3 j3 h6 j6
      have K3 := Aside0.mk k3
      have K6 := Aside0.mk k6
      have J3 := Aside0.mk j3
      have J6 := Aside0.mk j6
      have HR : Aside0 (Below wr.heap.size wr wr.drew) := ⟨below_drew (Below.refl _ _)⟩
      clear hrd g3 k3 g6 k6 h3 j3 h6 j6
      have p1 := eq_true (show (0 : Int) ≤ (i : Int) by omega)
      have p2 := eq_true (show (i : Int) < (l.length : Int) by omega)
      have d1 : decide ((i : Int) < (l.length : Int)) = true := by simp; omega
      generalize hea : ad.add (i * 12) = ea at x0 x1 x2 x3 x4 x5 x6 x7 x8 x9 x10 x11
      generalize heb : bd.add (i * 12) = eb at y0 y1 y2 y3 y4 y5 y6 y7 y8 y9 y10 y11
      have HX1 : Aside0 (El45 wr ea x (.slice A3 x.f1.f2.length c3) (.slice A6 x.f4.length c6)) := Aside0.mk (And.intro x0 (And.intro x1 (And.intro x2 (And.intro x3 (And.intro x4 (And.intro x5 (And.intro x6 (And.intro x7 (And.intro x8 (And.intro x9 (And.intro x10 x11)))))))))))
      have HY1 : Aside0 (El45 wr eb x (.slice B3 x.f1.f2.length d3) (.slice B6 x.f4.length d6)) := Aside0.mk (And.intro y0 (And.intro y1 (And.intro y2 (And.intro y3 (And.intro y4 (And.intro y5 (And.intro y6 (And.intro y7 (And.intro y8 (And.intro y9 (And.intro y10 y11)))))))))))
      go_wp2_with fail
      clear x0 x1 x2 x3 x4 x5 x6 x7 x8 x9 x10 x11 y0 y1 y2 y3 y4 y5 y6 y7 y8 y9 y10 y11
      have hz : wr.drew.heap.size = wr.heap.size := rfl
      replace HX1 : Aside0 (El45 wr.drew ea x (.slice A3 x.f1.f2.length c3) (.slice A6 x.f4.length c6)) := ⟨HX1.out.below HR.out⟩
      replace HY1 : Aside0 (El45 wr.drew eb x (.slice B3 x.f1.f2.length d3) (.slice B6 x.f4.length d6)) := ⟨HY1.out.below HR.out⟩
      clear hz
      go_region_held3 (fun w' => (w'.cell? ea = some (.int .i64 x.f0) ∧ w'.cell? ⟨ea.block, ea.off + 1, none⟩ = some (.string x.f1.f0) ∧ w'.cell? ⟨ea.block, ea.off + 2, none⟩ = some (.int .i64 x.f1.f1) ∧ w'.cell? ⟨ea.block, ea.off + 3, none⟩ = some (.slice A3 x.f1.f2.length c3) ∧ w'.cell? ⟨ea.block, ea.off + 4, none⟩ = some (.string x.f2) ∧ w'.cell? ⟨ea.block, ea.off + 5, none⟩ = some (.string x.f3) ∧ w'.cell? ⟨ea.block, ea.off + 6, none⟩ = some (.slice A6 x.f4.length c6) ∧ w'.cell? ⟨ea.block, ea.off + 7, none⟩ = some (.string x.f5) ∧ w'.cell? ⟨ea.block, ea.off + 8, none⟩ = some (.int .i64 x.f6) ∧ w'.cell? ⟨ea.block, ea.off + 9, none⟩ = some (.int .i64 x.f7) ∧ w'.cell? ⟨ea.block, ea.off + 10, none⟩ = some (.int .u64 x.f8) ∧ w'.cell? ⟨ea.block, ea.off + 11, none⟩ = some (.int .i64 x.f9)) ∧ (w'.cell? eb = some (.int .i64 x.f0) ∧ w'.cell? ⟨eb.block, eb.off + 1, none⟩ = some (.string x.f1.f0) ∧ w'.cell? ⟨eb.block, eb.off + 2, none⟩ = some (.int .i64 x.f1.f1) ∧ w'.cell? ⟨eb.block, eb.off + 3, none⟩ = some (.slice B3 x.f1.f2.length d3) ∧ w'.cell? ⟨eb.block, eb.off + 4, none⟩ = some (.string x.f2) ∧ w'.cell? ⟨eb.block, eb.off + 5, none⟩ = some (.string x.f3) ∧ w'.cell? ⟨eb.block, eb.off + 6, none⟩ = some (.slice B6 x.f4.length d6) ∧ w'.cell? ⟨eb.block, eb.off + 7, none⟩ = some (.string x.f5) ∧ w'.cell? ⟨eb.block, eb.off + 8, none⟩ = some (.int .i64 x.f6) ∧ w'.cell? ⟨eb.block, eb.off + 9, none⟩ = some (.int .i64 x.f7) ∧ w'.cell? ⟨eb.block, eb.off + 10, none⟩ = some (.int .u64 x.f8) ∧ w'.cell? ⟨eb.block, eb.off + 11, none⟩ = some (.int .i64 x.f9))) ((exact ⟨HX1.out, HY1.out⟩))
        (first
          | (go_at_call 20; refine (same_calls x _ _ _ _ _ _ _ _ _ (Kd.C_below K3.out HR.out) (Kd.C_below K6.out HR.out) ?g3 ?g6 HX.out.1.1.p.n HX.out.1.1.n4).mono ?_; (case g3 => first | exact Kd.C_below J3.out HR.out | exact Q3.out); (case g6 => first | exact Kd.C_below J6.out HR.out | exact Q6.out); rintro e w2 ⟨rfl, hb⟩; replace HX1 := Aside0.mk (HX1.out.below hb); replace HY1 := Aside0.mk (HY1.out.below hb); replace HR := Aside0.mk (below_step HR.out hb); clear hb)
          | (go_at_call 22; refine (clean_self x HX.out.2 A3 c3 A6 c6 _ (Kd.C_below K3.out HR.out) (Kd.C_below K6.out HR.out)).mono ?_; rintro e w2 ⟨E3, f3, E6, f6, rfl, q3, q6, hb⟩; have Q3 := Aside0.mk q3; have Q6 := Aside0.mk q6; replace HX1 := Aside0.mk (HX1.out.below hb); replace HY1 := Aside0.mk (HY1.out.below hb); replace HR := Aside0.mk (below_step HR.out hb); clear hb q3 q6))
      clear hea heb
      have HW2 := Aside0.mk (below_step HW.out HR.out)
      go_wp2_with fail
      go_roundw
      case rel => exact ⟨i + 1, by omega, by go_num, HW2⟩
      case measure => simp [intOf]; omega
    · obtain rfl : i = l.length := by omega
      have d1 : decide ((l.length : Int) < (l.length : Int)) = false := by simp
      clear hi hlt
      go_wp2_with fail
      refine (chartularylaw23_awake.calls k _ _ HA.out).mono ?_
      rintro e w6 ⟨rfl, hb⟩
      have HE := Aside0.mk (below_step (below_step HB.out HW.out) hb)
      clear hb
      go_wp2_with fail
      go_ret
      exact ⟨rfl, HE.out⟩

end Go.Proofs.Ytokkjnfdfbpphaa.A
namespace Go.Proofs.Ytokkjnfdfbpphaa.A
open Go.RowKit Go.Proofs.YtokkjnfdfbpphaaW.PrintWords Go.Proofs.YtokkjnfdfbpphaaW.PrintLast Go.Proofs.YtokkjnfdfbpphaaW.PrintMore
attribute [local go_sem] max2_int min2_int max_two min_two max_three min_three max_four min_four   -- for this text's walks alone
set_option linter.unusedVariables false
set_option linter.unusedSimpArgs false

/-! a step's tokens: its text falls into them, and they are read as the step -/
def commasFrom : Bool → List Tks → Tks
  | _, [] => []
  | first, a :: r => (if first then [] else [(3, [44])]) ++ a ++ commasFrom false r
def fieldToks (f : S87) : Tks := (2, f.f0.data.toList) :: (3, [61]) :: valToks f.f1
def paperToks (p : S42) : Tks := (2, p.f0.data.toList) :: (1, intText p.f1) :: (3, [40]) :: (commasFrom true (p.f2.map fieldToks) ++ [(3, [41])])
def namesToks (l : List ByteArray) : Tks := (3, [91]) :: (commasFrom true (l.map fun s => [(2, s.data.toList)]) ++ [(3, [93])])
def argToks (x : S45) (kind : Int) : Tks :=
  if kind = 0 then [(2, x.f2.data.toList)] else if kind = 1 then [(2, x.f3.data.toList)] else if kind = 2 then namesToks x.f4 else if kind = 3 then [(1, intText x.f6)] else if kind = 4 then [(1, intText x.f7)]
  else if kind = 5 then [(1, dec x.f8.toNat)] else if kind = 6 then [(1, intText x.f9)] else if kind = 7 then [(2, x.f5.data.toList)] else paperToks x.f1
def stepToks (x : S45) : Tks := (0, wordOf x.f0.toNat) :: ((argsOf x.f0.toNat).flatMap (argToks x) ++ [(3, [59])])
theorem lexes_join (f : Bool) (P : List (List UInt8 × Tks)) (hP : ∀ p ∈ P, Lexes false p.1 p.2) : P ≠ [] → Lexes false (Lib.join (P.map (·.1)) [44, 32]) (commasFrom true (P.map (·.2))) := by
  have tail : ∀ (Q : List (List UInt8 × Tks)), (∀ p ∈ Q, Lexes false p.1 p.2) → Lexes false (Lib.joinTail [44, 32] (Q.map (·.1))) (commasFrom false (Q.map (·.2))) := by
    intro Q
    induction Q with
    | nil => intro _; exact Lexes.nil.weak
    | cons q Q ih =>
      intro h
      have h1 := h q (by simp)
      have h2 := ih (fun p hp => h p (by simp [hp]))
      have a := Lexes.append (Lexes.mark 44 (by decide)) (Lexes.append (Lexes.blank 32 (by decide)) h1 (.inl rfl)) (.inl rfl)
      have e1 : Lib.joinTail [44, 32] ((q :: Q).map (·.1)) = ([44] ++ ([32] ++ q.1)) ++ Lib.joinTail [44, 32] (Q.map (·.1)) := by simp [Lib.joinTail]
      have e2 : commasFrom false ((q :: Q).map (·.2)) = ([(3, [44])] ++ ([] ++ q.2)) ++ commasFrom false (Q.map (·.2)) := by simp [commasFrom]
      rw [e1, e2]
      cases Q with
      | nil => simpa [Lib.joinTail, commasFrom] using a
      | cons r R => exact Lexes.append a h2 (.inr ⟨by simp [Lib.joinTail], rfl⟩)
  intro hne
  cases P with
  | nil => exact absurd rfl hne
  | cons p P =>
    have h1 := hP p (by simp)
    have h2 := tail P (fun q hq => hP q (by simp [hq]))
    have e1 : Lib.join ((p :: P).map (·.1)) [44, 32] = p.1 ++ Lib.joinTail [44, 32] (P.map (·.1)) := by rw [List.map_cons, Lib.join_cons]
    have e2 : commasFrom true ((p :: P).map (·.2)) = p.2 ++ commasFrom false (P.map (·.2)) := by simp [commasFrom]
    rw [e1, e2]
    cases P with
    | nil => simpa [Lib.joinTail, commasFrom] using h1
    | cons r R => exact Lexes.append h1 h2 (.inr ⟨by simp [Lib.joinTail], rfl⟩)
theorem lexes_between (a b : UInt8) (ha : isMark a = true) (hb : isMark b = true) (hw : isWord b = false) (P : List (List UInt8 × Tks)) (hP : ∀ p ∈ P, Lexes false p.1 p.2) :
    Lexes true (a :: (Lib.join (P.map (·.1)) [44, 32] ++ [b])) ((3, [a]) :: (commasFrom true (P.map (·.2)) ++ [(3, [b])])) := by
  have h := Lexes.append (Lexes.mark a ha) (?_ : Lexes true (Lib.join (P.map (·.1)) [44, 32] ++ [b]) (commasFrom true (P.map (·.2)) ++ [(3, [b])])) (.inl rfl)
  · exact h
  by_cases hne : P = []
  · subst hne; exact Lexes.mark b hb
  · exact Lexes.append (lexes_join true P hP hne) (Lexes.mark b hb) (.inr ⟨by simp, hw⟩)
theorem lexes_names (l : List ByteArray) : Lexes true (namesText l) (namesToks l) := by
  have := lexes_between 91 93 (by decide) (by decide) (by decide) (l.map fun s => (quoted s.data.toList, [((2 : Int), s.data.toList)])) (by
    intro p hp
    obtain ⟨s, _, rfl⟩ := List.mem_map.1 hp
    exact (Lexes.quote _).weak)
  rw [List.map_map, List.map_map] at this
  exact this
theorem lexes_field (f : S87) : Lexes false (fieldText f) (fieldToks f) := by
  have := Lexes.append (Lexes.quote f.f0.data.toList) (Lexes.append (Lexes.mark 61 (by decide)) (Lexes.val f.f1) (.inl rfl)) (.inl rfl)
  have e : fieldText f = quoted f.f0.data.toList ++ ([61] ++ valText f.f1) := by simp [fieldText]
  rw [e]; exact this
theorem lexes_paper (p : S42) : Lexes true (paperText p) (paperToks p) := by
  have h1 := lexes_between 40 41 (by decide) (by decide) (by decide) (p.f2.map fun f => (fieldText f, fieldToks f)) (by
    intro q hq
    obtain ⟨f, _, rfl⟩ := List.mem_map.1 hq
    exact lexes_field f)
  rw [List.map_map, List.map_map] at h1
  have h2 := Lexes.append (Lexes.quote p.f0.data.toList) (Lexes.append (Lexes.blank 32 (by decide)) (Lexes.append (Lexes.sep (Lexes.int p.f1) 32 (by decide)) h1 (.inl rfl)) (.inl rfl)) (.inl rfl)
  have e : paperText p = quoted p.f0.data.toList ++ ([32] ++ ((intText p.f1 ++ [32]) ++ (40 :: (Lib.join (p.f2.map fieldText) [44, 32] ++ [41])))) := by simp [paperText]
  rw [e]
  exact h2
theorem lexes_arg (x : S45) (kind : Int) : Lexes false (argText x kind) (argToks x kind) := by
  unfold argText argToks
  repeat' split
  all_goals first
    | exact (Lexes.quote _).weak
    | exact (lexes_names _).weak
    | exact Lexes.int _
    | exact Lexes.dec _
    | exact (lexes_paper _).weak
theorem word_letters (k : Nat) (h1 : 1 ≤ k) (h2 : k ≤ 15) : ∃ c w, wordOf k = c :: w ∧ isLetter c = true ∧ ∀ d ∈ w, isWord d = true := by
  have key : ∀ m : Fin 16, 1 ≤ m.1 → ∃ c w, wordOf m.1 = c :: w ∧ isLetter c = true ∧ ∀ d ∈ w, isWord d = true := by
    intro m hm
    have : ∀ m : Fin 16, 1 ≤ m.1 → (wordOf m.1 ≠ [] ∧ isLetter ((wordOf m.1).headD 0) = true ∧ (wordOf m.1).tail.all isWord = true) := by decide
    obtain ⟨a, b, c⟩ := this m hm
    cases h : wordOf m.1 with
    | nil => exact absurd h a
    | cons x t => rw [h] at b c; exact ⟨x, t, rfl, b, fun d hd => List.all_eq_true.1 c d hd⟩
  exact key ⟨k, by omega⟩ h1
theorem lexes_step (x : S45) (h1 : 1 ≤ x.f0) (h2 : x.f0 ≤ 15) : Lexes true (printText x) (stepToks x) := by
  unfold printText stepToks
  rw [if_pos ⟨h1, h2⟩]
  obtain ⟨c, w, hw, hc, hd⟩ := word_letters x.f0.toNat (by omega) (by omega)
  have hword : Lexes false (wordOf x.f0.toNat) [(0, wordOf x.f0.toNat)] := by rw [hw]; exact Lexes.word c w hc hd
  have tail : ∀ l : List Int, Lexes false (Lib.joinTail [32] (l.map (argText x))) (l.flatMap (argToks x)) := by
    intro l
    induction l with
    | nil => exact Lexes.nil.weak
    | cons a l ih =>
      have e1 : Lib.joinTail [32] ((a :: l).map (argText x)) = ([32] ++ argText x a) ++ Lib.joinTail [32] (l.map (argText x)) := by simp [Lib.joinTail]
      rw [e1, List.flatMap_cons]
      have h := Lexes.append (Lexes.blank 32 (by decide)) (lexes_arg x a) (.inl rfl)
      cases l with
      | nil => simpa [Lib.joinTail] using h
      | cons b l => exact Lexes.append h ih (.inr ⟨by simp [Lib.joinTail], rfl⟩)
  have hj : Lexes false (Lib.join (wordOf x.f0.toNat :: (argsOf x.f0.toNat).map (argText x)) [32]) ((0, wordOf x.f0.toNat) :: (argsOf x.f0.toNat).flatMap (argToks x)) := by
    rw [Lib.join_cons]
    have t := tail (argsOf x.f0.toNat)
    cases ha : argsOf x.f0.toNat with
    | nil => simpa [Lib.joinTail] using hword
    | cons a l => rw [ha] at t; exact Lexes.append hword t (.inr ⟨by simp [Lib.joinTail], rfl⟩)
  exact Lexes.append hj (Lexes.mark 59 (by decide)) (.inr ⟨by simp, rfl⟩)

end Go.Proofs.Ytokkjnfdfbpphaa.A
namespace Go.Proofs.Ytokkjnfdfbpphaa.A
open Go.RowKit Go.Proofs.YtokkjnfdfbpphaaW.PrintWords Go.Proofs.YtokkjnfdfbpphaaW.PrintLast Go.Proofs.YtokkjnfdfbpphaaW.PrintMore
attribute [local go_sem] max2_int min2_int max_two min_two max_three min_three max_four min_four   -- for this text's walks alone
set_option linter.unusedVariables false
set_option linter.unusedSimpArgs false

set_option maxRecDepth 100000 in
theorem awake_true : chartularylaw23_awake.f 40 = some true := by kernel_rfl

end Go.Proofs.Ytokkjnfdfbpphaa.A
namespace Go.Proofs.Ytokkjnfdfbpphaa.A
open Go.RowKit Go.Proofs.YtokkjnfdfbpphaaW.PrintWords Go.Proofs.YtokkjnfdfbpphaaW.PrintLast Go.Proofs.YtokkjnfdfbpphaaW.PrintMore
attribute [local go_sem] max2_int min2_int max_two min_two max_three min_three max_four min_four   -- for this text's walks alone
set_option linter.unusedVariables false
set_option linter.unusedSimpArgs false

theorem rounds_le {α : Type} (f : Nat → Option α) (h : ∀ k, LeO (f k) (f (k + 1))) {k m : Nat} (hk : k ≤ m) {r : α} (hr : f k = some r) : f m = some r := by
  obtain ⟨d, rfl⟩ : ∃ d, m = k + d := ⟨m - k, by omega⟩
  clear hk
  induction d with
  | zero => exact hr
  | succ d ih => exact h (k + d) r ih
theorem awake_big (k : Nat) (hk : 40 ≤ k) : chartularylaw23_awake.f k = some true := rounds_le _ (fun k => chartularylaw23_awake.mono k) hk awake_true
theorem ba_self (s : ByteArray) : (⟨s.data.toList.toArray⟩ : ByteArray) = s := by apply ba_ext; simp
theorem names_loop {s0 : List S28} {ts : Tks} (e : Int) (hl : s0.length ≤ 1000000) : ∀ (l acc : List ByteArray) (n k : Nat), Stands s0 n (commasFrom acc.isEmpty (l.map fun s => [(2, s.data.toList)]) ++ (3, [93]) :: ts) → acc.length + l.length ≤ 100 → 3 * l.length + 4 ≤ k →
    say_parser_names.l0 k acc (acc.length : Int) s0 n e (-1) = some (acc ++ l, ((n + (commasFrom acc.isEmpty (l.map fun s => [((2 : Int), s.data.toList)])).length + 1 : Nat) : Int), e, -1) := by
  intro l
  induction l with
  | nil =>
    intro acc n k h hc hk
    obtain ⟨k, rfl⟩ : ∃ m, k = m + 2 := ⟨k - 2, by omega⟩
    simp only [List.map_nil, commasFrom, List.nil_append] at h
    rw [say_parser_names.l0, if_pos (by decide), show (⟨#[93]⟩ : ByteArray) = ⟨[93].toArray⟩ from rfl, peek_yes e h]
    simp only [Option.bind_some]
    rw [say_parser_names.j1, if_neg (by decide), show (⟨#[93]⟩ : ByteArray) = ⟨[93].toArray⟩ from rfl, mark_ok e h hl]
    simp [commasFrom]
  | cons a r ih =>
    intro acc n k h hc hk
    obtain ⟨k, rfl⟩ : ∃ m, k = m + 3 := ⟨k - 3, by omega⟩
    simp only [List.length_cons] at hc hk
    have hap : (acc ++ [a]).isEmpty = false := by cases acc <;> rfl
    have hrec := ih (acc ++ [a])
    rw [hap] at hrec
    have hlen : (((acc ++ [a]).length : Nat) : Int) = wrap64 ((acc.length : Int) + 1) := by unfold wrap64; simp; omega
    cases hacc : acc with
    | nil =>
      subst hacc
      simp only [List.map_cons, commasFrom, List.isEmpty_nil, if_true, List.nil_append, List.singleton_append, List.cons_append] at h
      obtain ⟨_, _, _, h2⟩ := h.cons
      rw [say_parser_names.l0, if_pos (by decide), show (⟨#[93]⟩ : ByteArray) = ⟨[93].toArray⟩ from rfl, peek_no e h (.inl (by decide))]
      simp only [Option.bind_some]
      rw [say_parser_names.j1, if_pos (by decide), if_neg (by simp), say_parser_names.j2, if_neg (by simp), take_ok e h hl]
      simp only [Option.bind_some]
      rw [if_pos (by simp), ba_self, ← hlen, hrec (n + 1) k h2 (by simp; omega) (by omega)]
      simp [commasFrom]
      omega
    | cons b t =>
      subst hacc
      simp only [List.map_cons, commasFrom, List.isEmpty_cons, Bool.false_eq_true, if_false, List.singleton_append, List.cons_append, List.append_assoc, List.nil_append] at h
      obtain ⟨_, _, _, h2⟩ := h.cons
      obtain ⟨_, _, _, h3⟩ := h2.cons
      rw [say_parser_names.l0, if_pos (by decide), show (⟨#[93]⟩ : ByteArray) = ⟨[93].toArray⟩ from rfl, peek_no e h (.inr (by decide))]
      simp only [Option.bind_some]
      rw [say_parser_names.j1, if_pos (by decide), if_pos (by simp only [List.length_cons]; omega), show (⟨#[44]⟩ : ByteArray) = ⟨[44].toArray⟩ from rfl, mark_ok e h hl]
      simp only [Option.bind_some]
      rw [say_parser_names.j2, if_neg (by simp at hc ⊢; omega), take_ok e h2 hl]
      simp only [Option.bind_some]
      rw [if_pos (by simp at hc ⊢; omega), ba_self, ← hlen, hrec (n + 1 + 1) k h3 (by simp at hc ⊢; omega) (by omega)]
      simp [commasFrom]
      omega
theorem names_ok {s0 : List S28} {n : Nat} {ts : Tks} (e : Int) (hl : s0.length ≤ 1000000) (l : List ByteArray) (k : Nat) (h : Stands s0 n (namesToks l ++ ts)) (hc : l.length ≤ 100) (hk : 310 ≤ k) :
    say_parser_names.f k s0 n e (-1) = some (l, ((n + (namesToks l).length : Nat) : Int), e, -1) := by
  unfold namesToks at h ⊢
  rw [List.cons_append, List.append_assoc] at h
  obtain ⟨_, _, _, h2⟩ := h.cons
  unfold say_parser_names.f
  rw [show (⟨#[91]⟩ : ByteArray) = ⟨[91].toArray⟩ from rfl, mark_ok e h hl]
  simp only [Option.bind_some]
  have := names_loop (ts := ts) e hl l [] (n + 1) k h2 (by simpa using hc) (by omega)
  rw [show ((([] : List ByteArray).length : Nat) : Int) = 0 from rfl] at this
  rw [this]
  simp; omega
structure Goodf (f : S87) : Prop where
  v0 : 0 ≤ f.f1.f0
  v4 : f.f1.f0 ≤ 4
  s : saidV f.f1 = f.f1
  o : Okv f.f1
theorem field_ok {s0 : List S28} {n : Nat} {ts : Tks} (e : Int) (hl : s0.length ≤ 1000000) (f : S87) (hf : Goodf f) (k : Nat) (hk : 50 ≤ k) (h : Stands s0 n (fieldToks f ++ ts)) : fieldP k s0 n e (-1) = some (f, ((n + (fieldToks f).length : Nat) : Int), e, -1) := by
  unfold fieldToks at h ⊢
  simp only [List.cons_append] at h
  obtain ⟨_, _, _, h2⟩ := h.cons
  obtain ⟨_, _, _, h3⟩ := h2.cons
  unfold fieldP
  rw [take_ok e h hl]
  simp only [Option.bind_some]
  rw [show (⟨#[61]⟩ : ByteArray) = ⟨[61].toArray⟩ from rfl, mark_ok e h2 hl]
  simp only [Option.bind_some]
  rw [value_ok e f.f1 k hk hf.o h3 hl hf.v0 hf.v4]
  simp only [Option.bind_some, hf.s]
  rw [ba_self]
  simp; omega
theorem paper_loop {s0 : List S28} {ts : Tks} (e : Int) (hl : s0.length ≤ 1000000) : ∀ (l acc : List S87) (n k : Nat), (∀ f ∈ l, Goodf f) → Stands s0 n (commasFrom acc.isEmpty (l.map fieldToks) ++ (3, [41]) :: ts) → acc.length + l.length ≤ 100 → l.length + 60 ≤ k →
    paperL k s0 acc n e (-1) = some (acc ++ l, ((n + (commasFrom acc.isEmpty (l.map fieldToks)).length + 1 : Nat) : Int), e, -1) := by
  intro l
  induction l with
  | nil =>
    intro acc n k _ h hc hk
    obtain ⟨k, rfl⟩ : ∃ m, k = m + 1 := ⟨k - 1, by omega⟩
    simp only [List.map_nil, commasFrom, List.nil_append] at h
    rw [paperL, moreP, if_pos (by decide), show (⟨#[41]⟩ : ByteArray) = ⟨[41].toArray⟩ from rfl, peek_yes e h]
    simp only [Option.bind_some]
    rw [if_neg (by decide), mark_ok e h hl]
    simp [commasFrom]
  | cons a r ih =>
    intro acc n k hg h hc hk
    obtain ⟨k, rfl⟩ : ∃ m, k = m + 1 := ⟨k - 1, by omega⟩
    simp only [List.length_cons] at hc hk
    have hap : (acc ++ [a]).isEmpty = false := by cases acc <;> rfl
    have hrec := ih (acc ++ [a])
    rw [hap] at hrec
    have ha := hg a (by simp)
    have hr := fun f hf => hg f (List.mem_cons_of_mem a hf)
    cases hacc : acc with
    | nil =>
      subst hacc
      simp only [List.map_cons, commasFrom, List.isEmpty_nil, if_true, List.nil_append, List.append_assoc] at h
      obtain ⟨h1, h2⟩ := h.append
      have hh : ∃ t, Stands s0 n ((2, a.f0.data.toList) :: t) := ⟨_, h⟩
      obtain ⟨t, hh⟩ := hh
      rw [paperL, moreP, if_pos (by decide), show (⟨#[41]⟩ : ByteArray) = ⟨[41].toArray⟩ from rfl, peek_no e hh (.inl (by decide))]
      simp only [Option.bind_some]
      rw [if_pos (by decide), if_pos (by simp), commaP, if_neg (by simp)]
      simp only [Option.bind_some]
      rw [manyP, if_neg (by simp)]
      simp only [Option.bind_some]
      rw [field_ok e hl a ha k (by omega) h]
      simp only [Option.bind_some]
      rw [hrec _ k hr h2 (by simp; omega) (by omega)]
      simp [commasFrom]
      omega
    | cons b t =>
      subst hacc
      simp only [List.map_cons, commasFrom, List.isEmpty_cons, Bool.false_eq_true, if_false, List.singleton_append, List.cons_append, List.append_assoc, List.nil_append] at h
      obtain ⟨_, _, _, h2⟩ := h.cons
      obtain ⟨h3, h4⟩ := h2.append
      rw [paperL, moreP, if_pos (by decide), show (⟨#[41]⟩ : ByteArray) = ⟨[41].toArray⟩ from rfl, peek_no e h (.inr (by decide))]
      simp only [Option.bind_some]
      rw [if_pos (by decide), if_pos (by simp at hc ⊢; omega), commaP, if_pos (by simp only [List.length_cons]; omega), show (⟨#[44]⟩ : ByteArray) = ⟨[44].toArray⟩ from rfl, mark_ok e h hl]
      simp only [Option.bind_some]
      rw [manyP, if_neg (by simp at hc ⊢; omega)]
      simp only [Option.bind_some]
      rw [field_ok e hl a ha k (by omega) h2]
      simp only [Option.bind_some]
      rw [hrec _ k hr h4 (by simp at hc ⊢; omega) (by omega)]
      simp [commasFrom]
      omega
theorem paper_ok {s0 : List S28} {n : Nat} {ts : Tks} (e : Int) (hl : s0.length ≤ 1000000) (p : S42) (hp : Okp p) (hg : ∀ f ∈ p.f2, Goodf f) (hc : p.f2.length ≤ 100) (k : Nat) (hk : 310 ≤ k) (h : Stands s0 n (paperToks p ++ ts)) :
    say_parser_paper.f k s0 n e (-1) = some (p.f0, p.f1, p.f2, ((n + (paperToks p).length : Nat) : Int), e, -1) := by
  unfold paperToks at h ⊢
  simp only [List.cons_append, List.append_assoc] at h
  obtain ⟨_, _, _, h2⟩ := h.cons
  obtain ⟨_, _, _, h3⟩ := h2.cons
  obtain ⟨_, _, _, h4⟩ := h3.cons
  unfold say_parser_paper.f
  rw [take_ok e h hl]
  simp only [Option.bind_some]
  rw [number_ok e h2 hl hp.i0 hp.i1]
  simp only [Option.bind_some]
  rw [show (⟨#[40]⟩ : ByteArray) = ⟨[40].toArray⟩ from rfl, mark_ok e h3 hl]
  simp only [Option.bind_some]
  have := paper_loop (ts := ts) e hl p.f2 [] (n + 1 + 1 + 1) k hg h4 (by simpa using hc) (by omega)
  rw [this]
  simp only [Option.bind_some, ba_self]
  simp; omega
/-- What can be said of a step as a script. -/
structure Good (x : S45) : Prop where
  k1 : 1 ≤ x.f0
  k2 : x.f0 ≤ 15
  ok : Oks x
  vals : x.f0 = 1 → (∀ f ∈ x.f1.f2, Goodf f) ∧ x.f1.f2.length ≤ 100
  n4 : x.f4.length ≤ 100
def setArg (y x : S45) (a : Int) : S45 :=
  if a = 0 then { y with f2 := x.f2 } else if a = 1 then { y with f3 := x.f3 } else if a = 2 then { y with f4 := x.f4 } else if a = 3 then { y with f6 := x.f6 } else if a = 4 then { y with f7 := x.f7 }
  else if a = 5 then { y with f8 := x.f8 } else if a = 6 then { y with f9 := x.f9 } else if a = 7 then { y with f5 := x.f5 } else { y with f1 := x.f1 }
theorem arg_ok {s0 : List S28} {n : Nat} {ts : Tks} (e : Int) (hl : s0.length ≤ 1000000) (x y : S45) (hx : Good x) (a : Int) (h0 : 0 ≤ a) (h8 : a ≤ 8) (ha : a = 8 → x.f0 = 1) (k : Nat) (hk : 310 ≤ k) (h : Stands s0 n (argToks x a ++ ts)) :
    argF k s0 n e (-1) y a = some (setArg y x a, ((n + (argToks x a).length : Nat) : Int), e, -1) := by
  have hc : a = 0 ∨ a = 1 ∨ a = 2 ∨ a = 3 ∨ a = 4 ∨ a = 5 ∨ a = 6 ∨ a = 7 ∨ a = 8 := by omega
  rcases hc with rfl | rfl | rfl | rfl | rfl | rfl | rfl | rfl | rfl
  · show (say_parser_take.f s0 n e (-1) 2).bind _ = _
    rw [take_ok e h hl]; simp only [Option.bind_some, ba_self]; rfl
  · show (say_parser_take.f s0 n e (-1) 2).bind _ = _
    rw [take_ok e h hl]; simp only [Option.bind_some, ba_self]; rfl
  · show (say_parser_names.f k s0 n e (-1)).bind _ = _
    rw [names_ok e hl x.f4 k h hx.n4 hk]; simp only [Option.bind_some]; rfl
  · show (say_parser_number.f s0 n e (-1)).bind _ = _
    rw [number_ok e h hl hx.ok.i6 hx.ok.j6]; simp only [Option.bind_some]; rfl
  · show (say_parser_number.f s0 n e (-1)).bind _ = _
    rw [number_ok e h hl hx.ok.i7 hx.ok.j7]; simp only [Option.bind_some]; rfl
  · show (say_parser_count.f k s0 n e (-1)).bind _ = _
    have := hx.ok.i8; have := hx.ok.j8
    rw [count_ok e k (by omega) h hl (by omega), show ((x.f8.toNat : Nat) : Int) = x.f8 from Int.toNat_of_nonneg hx.ok.i8]; simp only [Option.bind_some]; rfl
  · show (say_parser_number.f s0 n e (-1)).bind _ = _
    rw [number_ok e h hl hx.ok.i9 hx.ok.j9]; simp only [Option.bind_some]; rfl
  · show (say_parser_take.f s0 n e (-1) 2).bind _ = _
    rw [take_ok e h hl]; simp only [Option.bind_some, ba_self]; rfl
  · show (say_parser_paper.f k s0 n e (-1)).bind _ = _
    obtain ⟨hv1, hv2⟩ := hx.vals (ha rfl)
    rw [paper_ok e hl x.f1 hx.ok.p hv1 hv2 k hk h]; simp only [Option.bind_some]; rfl
theorem args_ok {s0 : List S28} {ts : Tks} (e : Int) (hl : s0.length ≤ 1000000) (x : S45) (hx : Good x) (k : Nat) (hk : 310 ≤ k) : ∀ (l : List Int) (y : S45) (n : Nat), (∀ a ∈ l, 0 ≤ a ∧ a ≤ 8 ∧ (a = 8 → x.f0 = 1)) → Stands s0 n (l.flatMap (argToks x) ++ ts) →
    argsF k s0 l y n e (-1) = some (l.foldl (fun y a => setArg y x a) y, ((n + (l.flatMap (argToks x)).length : Nat) : Int), e, -1)
  | [], y, n, _, _ => by simp [argsF]
  | a :: l, y, n, ha, h => by
    rw [List.flatMap_cons, List.append_assoc] at h
    obtain ⟨h1, h2⟩ := h.append
    have := ha a (by simp)
    rw [argsF, arg_ok e hl x y hx a this.1 this.2.1 this.2.2 k hk h]
    simp only [Option.bind_some]
    rw [args_ok e hl x hx k hk l _ _ (fun b hb => ha b (by simp [hb])) h2]
    simp [Nat.add_assoc]
theorem kind_word (k : Nat) (h1 : 1 ≤ k) (h2 : k ≤ 15) : kindOf (wordOf k) = some k := by
  have key : ∀ m : Fin 16, 1 ≤ m.1 → kindOf (wordOf m.1) = some m.1 := by decide
  exact key ⟨k, by omega⟩ h1
theorem fold_clean (x : S45) (h1 : 1 ≤ x.f0) (h2 : x.f0 ≤ 15) : (argsOf x.f0.toNat).foldl (fun y a => setArg y x a) { z45 with f0 := ((x.f0.toNat : Nat) : Int) } = cleanS x := by
  obtain ⟨k, p, a, b, ns, d, n, m, kp, te⟩ := x
  have hc : k = 1 ∨ k = 2 ∨ k = 3 ∨ k = 4 ∨ k = 5 ∨ k = 6 ∨ k = 7 ∨ k = 8 ∨ k = 9 ∨ k = 10 ∨ k = 11 ∨ k = 12 ∨ k = 13 ∨ k = 14 ∨ k = 15 := by simp only at h1 h2; omega
  rcases hc with rfl | rfl | rfl | rfl | rfl | rfl | rfl | rfl | rfl | rfl | rfl | rfl | rfl | rfl | rfl
  all_goals rfl
theorem args_paper (k : Nat) (h1 : 1 ≤ k) (h2 : k ≤ 15) : ∀ a ∈ argsOf k, a = 8 → k = 1 := by
  have key : ∀ m : Fin 16, 1 ≤ m.1 → ∀ a ∈ argsOf m.1, a = 8 → m.1 = 1 := by decide
  exact key ⟨k, by omega⟩ h1
theorem step_ok {s0 : List S28} {n : Nat} {ts : Tks} (e : Int) (hl : s0.length ≤ 1000000) (x : S45) (hx : Good x) (k : Nat) (hk : 310 ≤ k) (h : Stands s0 n (stepToks x ++ ts)) :
    stepF k s0 n e (-1) = some (cleanS x, ((n + (stepToks x).length : Nat) : Int), e, -1) := by
  have h1 := hx.k1
  have h2 := hx.k2
  unfold stepToks at h ⊢
  rw [List.cons_append, List.append_assoc] at h
  obtain ⟨_, _, _, h3⟩ := h.cons
  obtain ⟨h4, h5⟩ := h3.append
  unfold stepF
  rw [take_ok e h hl]
  simp only [Option.bind_some]
  rw [kind_word _ (by omega) (by omega)]
  simp only
  rw [rounds_le (fun k => say_args.f k ((x.f0.toNat : Nat) : Int)) (fun k => say_args.mono _ k) (show 5 ≤ k by omega) (args_some x.f0.toNat (by omega) (by omega))]
  simp only [Option.bind_some]
  rw [args_ok e hl x hx k hk (argsOf x.f0.toNat) _ (n + 1) (fun a ha => ⟨((argsOf_small _).2 a ha).1, ((argsOf_small _).2 a ha).2, fun h8 => by have := args_paper x.f0.toNat (by omega) (by omega) a ha h8; omega⟩) h3]
  simp only [Option.bind_some]
  rw [show (⟨#[59]⟩ : ByteArray) = ⟨[59].toArray⟩ from rfl, mark_ok e h5 hl, fold_clean x h1 h2]
  simp; omega
theorem script_loop {s0 : List S28} (e : Int) (hl : s0.length ≤ 1000000) : ∀ (l acc : List S45) (n k : Nat), (∀ x ∈ l, Good x) → (s0.drop n).map tkOf = l.flatMap stepToks → acc.length + l.length ≤ 1000000 → l.length + 320 ≤ k →
    scriptL k s0 acc n e (-1) = some (acc ++ l.map cleanS, -1) := by
  intro l
  induction l with
  | nil =>
    intro acc n k _ h _ hk
    obtain ⟨k, rfl⟩ : ∃ m, k = m + 1 := ⟨k - 1, by omega⟩
    have hn : s0.length ≤ n := by
      have := congrArg List.length h
      simp at this; omega
    rw [scriptL, if_neg (by omega)]; simp
  | cons x r ih =>
    intro acc n k hg h hc hk
    obtain ⟨k, rfl⟩ : ∃ m, k = m + 1 := ⟨k - 1, by omega⟩
    simp only [List.length_cons] at hc hk
    rw [List.flatMap_cons] at h
    have hst : Stands s0 n (stepToks x ++ r.flatMap stepToks) := ⟨[], by rw [List.append_nil, h]⟩
    have hlt : n < s0.length := by
      have := hst.le (by simp [stepToks])
      have : 0 < (stepToks x ++ r.flatMap stepToks).length := by simp [stepToks]
      omega
    rw [scriptL, if_pos ⟨by decide, by omega⟩, if_pos (by omega), step_ok e hl x (hg x (by simp)) k (by omega) hst]
    simp only [Option.bind_some]
    rw [ih _ _ k (fun y hy => hg y (by simp [hy])) (by rw [← List.drop_drop, List.map_drop, h, List.drop_left]) (by simp; omega) (by omega)]
    simp
/-- A script's text that falls into steps' tokens is read as these steps. -/
theorem script_ok (T : List UInt8) (l : List S45) (f : Bool) (hT : Lexes f T (l.flatMap stepToks)) (hg : ∀ x ∈ l, Good x) (hlen : T.length ≤ 65536) (hn : l.length ≤ 65536) (k : Nat) (hk : 70000 ≤ k) : say_Script.f k ⟨T.toArray⟩ = some (l.map cleanS, 0, 0) := by
  have hT2 : Lexes false T (l.flatMap stepToks) := fun r p hr => hT r p (by rcases hr with h | h; exact absurd h (by decide); exact .inr h)
  obtain ⟨qs, hq, ht⟩ := tokens_ok hT2 hlen
  have hql : qs.length ≤ 65536 := by
    have h1 := tokens_some ⟨T.toArray⟩ (by rw [tol]; exact hlen)
    rcases h1 with ⟨l2, h2, h3⟩ | ⟨p, h2, h3⟩
    · rw [ht] at h3
      simp only [Option.some.injEq, Prod.mk.injEq] at h3
      rw [h3.1]
      have := lexL_count _ _ _ _ h2
      simp at this; omega
    · rw [ht] at h3
      simp at h3
  unfold say_Script.f
  rw [ht]
  simp only [Option.bind_some]
  rw [if_neg (by decide)]
  unfold scriptF
  have := script_loop (s0 := qs) ((⟨T.toArray⟩ : ByteArray).size : Int) (by omega) l [] 0 k hg (by rw [List.drop_zero, hq]) (by simp; omega) (by omega)
  rw [show ((0 : Nat) : Int) = 0 from rfl] at this
  rw [this]
  simp

end Go.Proofs.Ytokkjnfdfbpphaa.A
namespace Go.Proofs.Ytokkjnfdfbpphaa.A
open Go.RowKit Go.Proofs.YtokkjnfdfbpphaaW.PrintWords Go.Proofs.YtokkjnfdfbpphaaW.PrintLast Go.Proofs.YtokkjnfdfbpphaaW.PrintMore
attribute [local go_sem] max2_int min2_int max_two min_two max_three min_three max_four min_four   -- for this text's walks alone
set_option linter.unusedVariables false
set_option linter.unusedSimpArgs false

/-! what is read stood there -/
def NumLike (l : List UInt8) : Prop := ∃ c w, l = c :: w ∧ (isDigit c || c == 45) = true ∧ (∀ d ∈ w, isDigit d = true) ∧ (c = 45 → w ≠ [])
structure Wft (s0 : List S28) : Prop where
  len : s0.length ≤ 1000000
  pos : ∀ s ∈ s0, 0 ≤ s.f2
  num : ∀ s ∈ s0, s.f0 = 1 → NumLike s.f1.data.toList
  txt : ∀ s ∈ s0, s.f1.size ≤ 1000000
theorem unq_text : ∀ (n : Nat) (l t : List UInt8) (k : Nat), l.length ≤ n → unq l = some (t, k) → t.length ≤ k := by
  intro n
  induction n with
  | zero => intro l t k hl h; cases l with
    | nil => simp [unq] at h
    | cons => simp at hl
  | succ n ih =>
    intro l t k hl h
    cases l with
    | nil => simp [unq] at h
    | cons c l =>
      rw [unq_cons] at h
      split at h
      · simp at h; rw [h.1]; simp
      · split at h
        · match l, h with
          | x :: a :: b :: l', h =>
            dsimp only at h
            split at h
            · split at h
              · split at h
                · simp at h
                · cases hu : unq l' with
                  | none => rw [hu] at h; simp at h
                  | some p =>
                    rw [hu] at h; simp at h
                    have := ih l' p.1 p.2 (by simp at hl; omega) (by rw [hu])
                    rw [← h.1, ← h.2]; simp; omega
              · simp at h
            · simp at h
          | [], h => simp at h
          | [_], h => simp at h
          | [_, _], h => simp at h
        · split at h
          · cases hu : unq l with
            | none => rw [hu] at h; simp at h
            | some p =>
              rw [hu] at h; simp at h
              have := ih l p.1 p.2 (by simp at hl; omega) (by rw [hu])
              rw [← h.1, ← h.2]; simp; omega
          · simp at h
theorem takeWhile_mem (p : UInt8 → Bool) : ∀ (l : List UInt8) (d : UInt8), d ∈ l.takeWhile p → p d = true
  | [], _, h => by simp at h
  | c :: t, d, h => by
    by_cases hc : p c = true
    · rw [List.takeWhile_cons_of_pos hc] at h
      rcases List.mem_cons.1 h with h | h
      · rw [h]; exact hc
      · exact takeWhile_mem p t d h
    · rw [List.takeWhile_cons_of_neg hc] at h; simp at h
theorem tokL_facts (l : List UInt8) (k : Int) (t : List UInt8) (m : Nat) (h : tokL l = some (k, t, m)) : t.length ≤ m ∧ (k = 1 → NumLike t) := by
  unfold tokL at h
  split at h
  · simp at h
  · rename_i c r
    split at h
    · simp only [Option.some.injEq, Prod.mk.injEq] at h
      obtain ⟨rfl, rfl, rfl⟩ := h
      exact ⟨Nat.le_refl _, fun h => absurd h (by decide)⟩
    · split at h
      · rename_i hd
        split at h
        · simp at h
        · rename_i hm
          simp only [Option.some.injEq, Prod.mk.injEq] at h
          obtain ⟨rfl, rfl, rfl⟩ := h
          refine ⟨by simp, fun _ => ⟨c, _, rfl, hd, fun d hdm => ?_, fun hc hw => ?_⟩⟩
          · exact takeWhile_mem isDigit _ d hdm
          · rw [hc, hw] at hm; simp at hm
      · split at h
        · cases hu : unq r with
          | none => rw [hu] at h; simp at h
          | some p =>
            rw [hu] at h
            simp only [Option.map_some, Option.some.injEq, Prod.mk.injEq] at h
            obtain ⟨rfl, rfl, rfl⟩ := h
            have := unq_text _ r p.1 p.2 (Nat.le_refl _) (by rw [hu])
            exact ⟨by omega, fun h => absurd h (by decide)⟩
        · split at h
          · simp only [Option.some.injEq, Prod.mk.injEq] at h
            obtain ⟨rfl, rfl, rfl⟩ := h
            exact ⟨by simp, fun h => absurd h (by decide)⟩
          · simp at h
theorem lexL_wft : ∀ (n : Nat) (l : List UInt8) (p : Nat) (qs : List S28), lexL n l p = .ok qs → ∀ s ∈ qs, 0 ≤ s.f2 ∧ (s.f0 = 1 → NumLike s.f1.data.toList) ∧ s.f1.size ≤ l.length
  | 0, l, p, qs, h => by simp [lexL] at h; subst h; simp
  | n + 1, l, p, qs, h => by
    rw [lexL] at h
    split at h
    · simp at h; subst h; simp
    · cases ht : tokL (l.drop (blankLen false l)) with
      | none => rw [ht] at h; simp at h
      | some q =>
        obtain ⟨k, t, j⟩ := q
        have hj := tokL_le _ k t j ht
        have hf := tokL_facts _ k t j ht
        rw [List.length_drop] at hj
        rw [ht] at h
        dsimp only at h
        cases hr : lexL n (l.drop (blankLen false l + j)) (p + blankLen false l + j) with
        | error e => rw [hr] at h; simp [Except.map] at h
        | ok r =>
          rw [hr] at h
          simp only [Except.map, Except.ok.injEq] at h
          subst h
          intro s hs
          rcases List.mem_cons.1 hs with rfl | hs
          · exact ⟨by simp only; omega, fun hk => hf.2 hk, by rw [tol]; omega⟩
          · have := lexL_wft n _ _ r hr s hs
            rw [List.length_drop] at this
            exact ⟨this.1, this.2.1, by omega⟩
/-- From one state of a parser to the next: if no fault is noted, tokens of which Q holds stood there. -/
def Snd (s0 : List S28) (n e b n' e' b' : Int) (Q : Tks → Prop) : Prop :=
  e' = e ∧ (b' < 0 → b < 0 ∧ b' = b ∧ ∃ (m : Nat) (ts : Tks), n = (m : Int) ∧ Stands s0 m ts ∧ n' = ((m + ts.length : Nat) : Int) ∧ Q ts)
theorem Stands.join {s0 : List S28} {m : Nat} {a b : Tks} (ha : Stands s0 m a) (hb : Stands s0 (m + a.length) b) : Stands s0 m (a ++ b) := by
  obtain ⟨r, hr⟩ := ha
  unfold Stands at hb
  rw [← List.drop_drop, List.map_drop, ← hr, List.drop_left] at hb
  obtain ⟨q, rfl⟩ := hb
  exact ⟨q, by rw [← hr]; simp⟩
theorem Snd.bind {s0 : List S28} {n e b n1 e1 b1 n2 e2 b2 : Int} {Q1 Q2 Q : Tks → Prop} (h1 : Snd s0 n e b n1 e1 b1 Q1) (h2 : Snd s0 n1 e1 b1 n2 e2 b2 Q2) (hQ : ∀ t1 t2, Q1 t1 → Q2 t2 → Q (t1 ++ t2)) : Snd s0 n e b n2 e2 b2 Q := by
  obtain ⟨rfl, h1⟩ := h1
  obtain ⟨rfl, h2⟩ := h2
  refine ⟨rfl, fun hb => ?_⟩
  obtain ⟨hb1, rfl, m1, t2, hm1, hs2, hn2, hq2⟩ := h2 hb
  obtain ⟨hb0, rfl, m, t1, hm, hs1, hn1, hq1⟩ := h1 hb1
  have : m1 = m + t1.length := by omega
  subst this
  exact ⟨hb0, rfl, m, t1 ++ t2, hm, hs1.join hs2, by rw [hn2, List.length_append, Nat.add_assoc], hQ _ _ hq1 hq2⟩
theorem Snd.imp {s0 : List S28} {n e b n1 e1 b1 : Int} {Q1 Q : Tks → Prop} (h1 : Snd s0 n e b n1 e1 b1 Q1) (hQ : ∀ t, Q1 t → Q t) : Snd s0 n e b n1 e1 b1 Q := by
  obtain ⟨rfl, h1⟩ := h1
  refine ⟨rfl, fun hb => ?_⟩
  obtain ⟨a, c, m, t, d, f, g, q⟩ := h1 hb
  exact ⟨a, c, m, t, d, f, g, hQ t q⟩
theorem fail_snd {s0 : List S28} (W : Wft s0) {n e b n' e' b' : Int} (he : 0 ≤ e) (h : say_parser_fail.f s0 n e b = some (n', e', b')) : e' = e ∧ n' = n ∧ 0 ≤ b' := by
  unfold say_parser_fail.f at h
  split at h
  · unfold say_parser_here.f at h
    split at h
    · split at h
      · rename_i h1 h2
        simp only [Option.bind_some, Option.some.injEq, Prod.mk.injEq] at h
        obtain ⟨rfl, rfl, rfl⟩ := h
        refine ⟨rfl, rfl, ?_⟩
        have hn : n.toNat < s0.length := by omega
        have e1 : rd_T28 s0 n = s0[n.toNat] := by simp [rd_T28, List.getD_eq_getElem?_getD, hn]
        rw [e1]
        exact W.pos _ (List.getElem_mem hn)
      · simp at h
    · simp only [Option.bind_some, Option.some.injEq, Prod.mk.injEq] at h
      obtain ⟨rfl, rfl, rfl⟩ := h
      exact ⟨rfl, rfl, he⟩
  · simp only [Option.some.injEq, Prod.mk.injEq] at h
    obtain ⟨rfl, rfl, rfl⟩ := h
    exact ⟨rfl, rfl, by omega⟩
theorem fail_Snd {s0 : List S28} (W : Wft s0) {n e b n' e' b' n0 e0 b0 : Int} {Q : Tks → Prop} (he : 0 ≤ e) (hee : e0 = e) (h : say_parser_fail.f s0 n e b = some (n', e', b')) : Snd s0 n0 e0 b0 n' e' b' Q := by
  obtain ⟨h1, _, h3⟩ := fail_snd W he h
  exact ⟨by rw [h1, hee], fun hb => absurd hb (by omega)⟩
theorem stands_one {s0 : List S28} {m : Nat} (h : m < s0.length) : Stands s0 m [((rd_T28 s0 (m : Int)).f0, (rd_T28 s0 (m : Int)).f1.data.toList)] := by
  unfold Stands
  have e : rd_T28 s0 (m : Int) = s0[m] := by simp [rd_T28, List.getD_eq_getElem?_getD, h]
  rw [List.drop_eq_getElem_cons h, List.map_cons, e]
  exact ⟨_, rfl⟩
theorem take_snd {s0 : List S28} (W : Wft s0) {n e b k n' e' b' : Int} {t : ByteArray} (he : 0 ≤ e) (h : say_parser_take.f s0 n e b k = some (t, n', e', b')) :
    Snd s0 n e b n' e' b' (fun ts => ts = [(k, t.data.toList)] ∧ (k = 1 → NumLike t.data.toList) ∧ t.size ≤ 1000000) := by
  unfold say_parser_take.f at h
  split at h
  · simp only [Option.some.injEq, Prod.mk.injEq] at h
    obtain ⟨rfl, rfl, rfl, rfl⟩ := h
    exact ⟨rfl, fun hb => absurd hb (by omega)⟩
  · rename_i hb
    split at h
    · replace h := Option.bind_eq_some_iff.mp h
      obtain ⟨⟨q1, q2, q3⟩, hq, h⟩ := h
      simp only [Option.some.injEq, Prod.mk.injEq] at h
      obtain ⟨rfl, rfl, rfl, rfl⟩ := h
      exact fail_Snd W he rfl hq
    · rename_i hn
      split at h
      · rename_i h0
        split at h
        · split at h
          · rename_i hk
            have hl := W.len
            have w1 : wrap64 (n + 1) = n + 1 := by unfold wrap64; omega
            have w2 : wrap64 (n + 1 - 1) = n := by unfold wrap64; omega
            rw [w1, w2, if_pos h0, if_pos (by omega)] at h
            simp only [Option.some.injEq, Prod.mk.injEq] at h
            obtain ⟨rfl, rfl, rfl, rfl⟩ := h
            refine ⟨rfl, fun _ => ⟨by omega, rfl, n.toNat, [(k, (rd_T28 s0 n).f1.data.toList)], by omega, ?_, by simp; omega, rfl, ?_, ?_⟩⟩
            · have := stands_one (s0 := s0) (m := n.toNat) (by omega)
              rw [Int.toNat_of_nonneg h0, hk] at this
              exact this
            · intro hk1
              have hn2 : n.toNat < s0.length := by omega
              have e1 : rd_T28 s0 n = s0[n.toNat] := by simp [rd_T28, List.getD_eq_getElem?_getD, hn2]
              rw [e1] at hk ⊢
              exact W.num _ (List.getElem_mem hn2) (by omega)
            · have hn2 : n.toNat < s0.length := by omega
              have e1 : rd_T28 s0 n = s0[n.toNat] := by simp [rd_T28, List.getD_eq_getElem?_getD, hn2]
              rw [e1]
              exact W.txt _ (List.getElem_mem hn2)
          · replace h := Option.bind_eq_some_iff.mp h
            obtain ⟨⟨q1, q2, q3⟩, hq, h⟩ := h
            simp only [Option.some.injEq, Prod.mk.injEq] at h
            obtain ⟨rfl, rfl, rfl, rfl⟩ := h
            exact fail_Snd W he rfl hq
        · simp at h
      · simp at h
theorem peek_snd {s0 : List S28} {n e b n' e' b' : Int} {m : List UInt8} {r : Bool} (h : say_parser_peek.f s0 n e b ⟨m.toArray⟩ = some (r, n', e', b')) :
    n' = n ∧ e' = e ∧ b' = b ∧ (r = true → b < 0 ∧ 0 ≤ n ∧ n < (s0.length : Int) ∧ Stands s0 n.toNat [(3, m)]) := by
  unfold say_parser_peek.f at h
  split at h
  · split at h
    · split at h
      · split at h
        · rename_i hb hn h0 hk
          simp only [Option.some.injEq, Prod.mk.injEq] at h
          obtain ⟨rfl, rfl, rfl, rfl⟩ := h
          refine ⟨rfl, rfl, rfl, fun hr => ⟨hb, h0, hn, ?_⟩⟩
          have := stands_one (s0 := s0) (m := n.toNat) (by omega)
          rw [Int.toNat_of_nonneg h0, hk] at this
          rw [beq_iff_eq, Lib.toList_data, Lib.toList_data] at hr
          rw [hr] at this
          exact this
        · simp only [Option.some.injEq, Prod.mk.injEq] at h
          obtain ⟨rfl, rfl, rfl, rfl⟩ := h
          exact ⟨rfl, rfl, rfl, fun h => absurd h (by decide)⟩
      · simp at h
    · simp only [Option.some.injEq, Prod.mk.injEq] at h
      obtain ⟨rfl, rfl, rfl, rfl⟩ := h
      exact ⟨rfl, rfl, rfl, fun h => absurd h (by decide)⟩
  · simp only [Option.some.injEq, Prod.mk.injEq] at h
    obtain ⟨rfl, rfl, rfl, rfl⟩ := h
    exact ⟨rfl, rfl, rfl, fun h => absurd h (by decide)⟩
theorem mark_snd {s0 : List S28} (W : Wft s0) {n e b n' e' b' : Int} {m : List UInt8} (he : 0 ≤ e) (h : say_parser_mark.f s0 n e b ⟨m.toArray⟩ = some (n', e', b')) : Snd s0 n e b n' e' b' (fun ts => ts = [(3, m)]) := by
  unfold say_parser_mark.f at h
  replace h := Option.bind_eq_some_iff.mp h
  obtain ⟨⟨r, q1, q2, q3⟩, hq, h⟩ := h
  obtain ⟨rfl, rfl, rfl, hr⟩ := peek_snd hq
  clear hq
  dsimp only at h
  split at h
  · rename_i ht
    simp only [Option.some.injEq, Prod.mk.injEq] at h
    obtain ⟨rfl, rfl, rfl⟩ := h
    obtain ⟨hb, h0, hn, hs⟩ := hr ht
    have hl := W.len
    refine ⟨rfl, fun _ => ⟨hb, rfl, q1.toNat, [(3, m)], by omega, hs, ?_, rfl⟩⟩
    unfold wrap64; simp; omega
  · replace h := Option.bind_eq_some_iff.mp h
    obtain ⟨⟨p1, p2, p3⟩, hp, h⟩ := h
    simp only [Option.some.injEq, Prod.mk.injEq] at h
    obtain ⟨rfl, rfl, rfl⟩ := h
    exact fail_Snd W he rfl hp
/-! numbers have one form each -/
theorem dig_of (c : UInt8) (h : isDigit c = true) : ∃ d, d < 10 ∧ c = digC d ∧ digVal c = d := by
  have key := u8_all (p := fun c => isDigit c = true → (c = digC (digVal c) ∧ digVal c < 10)) (by decide +kernel) c h
  exact ⟨digVal c, key.2, key.1, rfl⟩
theorem digFold_canon : ∀ (n : Nat) (l : List UInt8), l.length ≤ n → (∀ c ∈ l, isDigit c = true) → ∀ v, digFold 0 l = some v → l ≠ [] → (l.length = 1 ∨ l.head? ≠ some 48) → dec v = l ∧ (l.head? ≠ some 48 → 0 < v) := by
  intro n
  induction n with
  | zero => intro l hl _ v _ hne _; exact absurd (List.eq_nil_of_length_eq_zero (by omega)) hne
  | succ n ih =>
    intro l hl hd v hv hne hc
    rcases List.eq_nil_or_concat l with h | ⟨a, c, h⟩
    · exact absurd h hne
    · have hl2 : l = a ++ [c] := by simpa using h
      subst hl2
      obtain ⟨d, hd9, hcd, hdv⟩ := dig_of c (hd c (by simp))
      rw [digFold_append] at hv
      cases ha : a with
      | nil =>
        subst ha
        simp only [digFold, Option.bind_some, List.nil_append] at hv
        split at hv
        · simp at hv
        · simp only [Option.some.injEq] at hv
          have : v = d := by omega
          subst this
          refine ⟨by rw [dec_small v hd9, hcd]; rfl, fun h48 => ?_⟩
          rcases Nat.eq_zero_or_pos v with h0 | h0
          · subst h0; exact absurd (by rw [hcd]; rfl) h48
          · exact h0
      | cons x t =>
        obtain ⟨u, hu, hv2⟩ := Option.bind_eq_some_iff.mp hv
        simp only [digFold] at hv2
        split at hv2
        · simp at hv2
        · simp only [Option.some.injEq] at hv2
          have hh : a.head? = (a ++ [c]).head? := by rw [ha]; rfl
          have h48 : a.head? ≠ some 48 := by
            rcases hc with hc | hc
            · rw [ha] at hc; simp at hc
            · rw [hh]; exact hc
          obtain ⟨e1, e2⟩ := ih a (by simp at hl; omega) (fun z hz => hd z (by simp [hz])) u hu (by rw [ha]; simp) (.inr h48)
          have hu0 := e2 h48
          rw [← ha]
          refine ⟨?_, fun _ => by omega⟩
          rw [dec_big v (by omega), show v / 10 = u by omega, e1, show v % 10 = d by omega, hcd]
theorem digitsOf_canon (l : List UInt8) (hd : ∀ c ∈ l, isDigit c = true) (v : Nat) (h : digitsOf l = some v) : dec v = l ∧ v < 18446744073709551616 ∧ (v = 0 → l = [48]) := by
  cases hl : l with
  | nil => rw [hl] at h; simp [digitsOf] at h
  | cons c t =>
    subst hl
    rw [digitsOf] at h
    split at h
    · simp at h
    · rename_i hc
      have hlt := digFold_lt _ 0 v (by decide) h
      have := digFold_canon _ (c :: t) (Nat.le_refl _) hd v h (by simp) (by
        by_cases ht : t.length = 0
        · left; simp [ht]
        · right; intro e; simp at e; exact hc (.inl ⟨by omega, e⟩))
      refine ⟨this.1, hlt, fun h0 => ?_⟩
      rw [← this.1, h0]; exact dec_small 0 (by decide)
theorem numVal_canon (l : List UInt8) (hn : NumLike l) (v : Int) (h : numVal l = some v) : l = intText v ∧ -9223372036854775808 ≤ v ∧ v < 9223372036854775808 := by
  obtain ⟨c, w, rfl, hc, hw, hm⟩ := hn
  unfold numVal at h
  split at h
  · rename_i h45
    have h45' : c = 45 := by simpa using h45
    subst h45'
    rw [List.tail_cons] at h
    obtain ⟨u, hu, hv⟩ := Option.bind_eq_some_iff.mp h
    obtain ⟨e1, e2, e3⟩ := digitsOf_canon w hw u hu
    unfold numNeg at hv
    split at hv
    · simp at hv
    · rename_i hr
      simp only [Option.some.injEq] at hv
      refine ⟨?_, by omega, by omega⟩
      unfold intText
      rw [if_pos (by omega), show (-v).toNat = u by omega, e1]
  · rename_i h45
    have hcd : isDigit c = true := by
      rcases Bool.or_eq_true _ _ |>.mp hc with h | h
      · exact h
      · exact absurd (by simpa using h) h45
    obtain ⟨u, hu, hv⟩ := Option.bind_eq_some_iff.mp h
    obtain ⟨e1, e2, e3⟩ := digitsOf_canon (c :: w) (by intro z hz; rcases List.mem_cons.1 hz with rfl | hz; exact hcd; exact hw z hz) u hu
    unfold numPos at hv
    split at hv
    · simp at hv
    · simp only [Option.some.injEq] at hv
      refine ⟨?_, by omega, by omega⟩
      unfold intText
      rw [if_neg (by omega), show v.toNat = u by omega, e1]
theorem number_snd {s0 : List S28} (W : Wft s0) {n e b n' e' b' x : Int} (he : 0 ≤ e) (h : say_parser_number.f s0 n e b = some (x, n', e', b')) :
    Snd s0 n e b n' e' b' (fun ts => ts = [(1, intText x)] ∧ -9223372036854775808 ≤ x ∧ x < 9223372036854775808) := by
  unfold say_parser_number.f at h
  replace h := Option.bind_eq_some_iff.mp h
  obtain ⟨⟨t, t1, t2, t3⟩, ht, h⟩ := h
  have hs := take_snd W he ht
  obtain ⟨rfl, hs2⟩ := hs
  dsimp only at h
  split at h
  · simp only [Option.some.injEq, Prod.mk.injEq] at h
    obtain ⟨rfl, rfl, rfl, rfl⟩ := h
    exact ⟨rfl, fun hb => absurd hb (by omega)⟩
  · split at h
    · cases hv : numVal t.data.toList with
      | none =>
        rw [hv] at h
        replace h := Option.bind_eq_some_iff.mp h
        obtain ⟨⟨p1, p2, p3⟩, hp, h⟩ := h
        simp only [Option.some.injEq, Prod.mk.injEq] at h
        obtain ⟨rfl, rfl, rfl, rfl⟩ := h
        exact fail_Snd W he rfl hp
      | some v =>
        rw [hv] at h
        simp only [Option.some.injEq, Prod.mk.injEq] at h
        obtain ⟨rfl, rfl, rfl, rfl⟩ := h
        refine Snd.imp ⟨rfl, hs2⟩ fun ts hq => ?_
        obtain ⟨rfl, hnl, _⟩ := hq
        obtain ⟨e1, e2, e3⟩ := numVal_canon _ (hnl rfl) _ hv
        exact ⟨by rw [← e1], e2, e3⟩
    · simp at h
/-- What a token takes: its own signs. -/
def cost (a : Int × List UInt8) : Nat := if a.1 = 2 then (quoted a.2).length else a.2.length
/-- What tokens take printed, each with what stands between; and what is left for them where they are read. -/
def pw (ts : Tks) : Nat := (ts.map fun a => cost a + 2).sum
def cw (ts : Tks) : Nat := (ts.map fun a => cost a + 22).sum
theorem pw_append (a b : Tks) : pw (a ++ b) = pw a + pw b := by simp [pw]
theorem cw_append (a b : Tks) : cw (a ++ b) = cw a + cw b := by simp [cw]
theorem pw_le_cw : ∀ ts, pw ts ≤ cw ts
  | [] => Nat.le_refl _
  | a :: ts => by have := pw_le_cw ts; simp only [pw, cw, List.map_cons, List.sum_cons] at this ⊢; omega
theorem count_snd {s0 : List S28} (W : Wft s0) {k : Nat} {n e b n' e' b' x : Int} (he : 0 ≤ e) (h : say_parser_count.f k s0 n e b = some (x, n', e', b')) :
    Snd s0 n e b n' e' b' (fun ts => pw [(1, dec x.toNat)] ≤ cw ts ∧ 0 ≤ x ∧ x < 18446744073709551616) := by
  unfold say_parser_count.f at h
  replace h := Option.bind_eq_some_iff.mp h
  obtain ⟨⟨t, t1, t2, t3⟩, ht, h⟩ := h
  obtain ⟨rfl, hs2⟩ := take_snd W he ht
  clear ht
  replace h := Option.bind_eq_some_iff.mp h
  obtain ⟨⟨d1, d2⟩, hd, h⟩ := h
  dsimp only at h hd
  cases k with
  | zero => split at h <;> simp [say_parser_count.j0] at h
  | succ k =>
    unfold say_digits.f at hd
    cases hv : digitsOf t.data.toList with
    | none =>
      rw [hv] at hd
      simp only [Option.some.injEq, Prod.mk.injEq] at hd
      obtain ⟨rfl, rfl⟩ := hd
      split at h
      · rw [say_parser_count.j0, if_pos (by decide)] at h
        replace h := Option.bind_eq_some_iff.mp h
        obtain ⟨⟨p1, p2, p3⟩, hp, h⟩ := h
        rw [if_neg (by decide)] at h
        simp only [Option.some.injEq, Prod.mk.injEq] at h
        obtain ⟨rfl, rfl, rfl, rfl⟩ := h
        exact fail_Snd W he rfl hp
      · rename_i hb
        rw [say_parser_count.j0, if_neg (by decide), if_neg (by decide)] at h
        simp only [Option.some.injEq, Prod.mk.injEq] at h
        obtain ⟨rfl, rfl, rfl, rfl⟩ := h
        exact ⟨rfl, fun hb2 => absurd hb2 hb⟩
    | some v =>
      rw [hv] at hd
      simp only [Option.some.injEq, Prod.mk.injEq] at hd
      obtain ⟨rfl, rfl⟩ := hd
      have h' : some ((v : Int), t1, t2, t3) = some (x, n', e', b') := by
        split at h
        · rw [say_parser_count.j0, if_neg (by decide), if_pos rfl] at h; exact h
        · rw [say_parser_count.j0, if_neg (by decide), if_pos rfl] at h; exact h
      simp only [Option.some.injEq, Prod.mk.injEq] at h'
      obtain ⟨rfl, rfl, rfl, rfl⟩ := h'
      refine Snd.imp ⟨rfl, hs2⟩ fun ts hq => ?_
      obtain ⟨rfl, _, _⟩ := hq
      have hlt : v < 18446744073709551616 := by
        cases hl : t.data.toList with
        | nil => rw [hl] at hv; simp [digitsOf] at hv
        | cons c r =>
          rw [hl, digitsOf] at hv
          split at hv
          · simp at hv
          · exact digFold_lt _ 0 v (by decide) hv
      refine ⟨?_, by omega, by omega⟩
      have := dec_64 v hlt
      simp [pw, cw, cost]; omega

end Go.Proofs.Ytokkjnfdfbpphaa.A
namespace Go.Proofs.Ytokkjnfdfbpphaa.A
open Go.RowKit Go.Proofs.YtokkjnfdfbpphaaW.PrintWords Go.Proofs.YtokkjnfdfbpphaaW.PrintLast Go.Proofs.YtokkjnfdfbpphaaW.PrintMore
attribute [local go_sem] max2_int min2_int max_two min_two max_three min_three max_four min_four   -- for this text's walks alone
set_option linter.unusedVariables false
set_option linter.unusedSimpArgs false

theorem nibble_of (c : UInt8) (d : Int) (h : say_nibble.f (c.toNat : Int) = some d) (h0 : 0 ≤ d) : d < 16 ∧ c = hexDigit d.toNat := by
  have k2 := u8_all (p := fun c => (say_nibble.f (c.toNat : Int)).all (fun d => !decide (0 ≤ d) || (decide (d < 16) && c == hexDigit d.toNat)) = true) (by decide +kernel) c
  rw [h] at k2
  simp only [Option.all_some, Bool.or_eq_true, Bool.not_eq_true', decide_eq_false_iff_not, Bool.and_eq_true, decide_eq_true_eq, beq_iff_eq] at k2
  rcases k2 with k2 | k2
  · exact absurd h0 k2
  · exact k2
/-- The first j of 16 signs of a number that has no more than j. -/
def hexFst (a j : Nat) : List UInt8 := (List.range j).map fun i => hexD a (j - 1 - i)
theorem hexFst_succ (a j d : Nat) (hd : d < 16) : hexFst (a * 16 + d) (j + 1) = hexFst a j ++ [hexDigit d] := by
  unfold hexFst
  rw [List.range_succ, List.map_append]
  congr 1
  · apply List.map_congr_left
    intro i hi
    have hi' : i < j := by simpa using hi
    unfold hexD
    rw [show j + 1 - 1 - i = (j - 1 - i) + 1 by omega, Nat.pow_succ', ← Nat.div_div_eq_div_mul, show (a * 16 + d) / 16 = a by omega]
  · show [hexD (a * 16 + d) (j + 1 - 1 - j)] = [hexDigit d]
    rw [show j + 1 - 1 - j = 0 by omega]
    unfold hexD
    rw [Nat.pow_zero, Nat.div_one, show (a * 16 + d) % 16 = d by omega]
theorem hexFst_16 (a : Nat) : hexFst a 16 = hex16 a := rfl
def ValQ (v0 : Int) (v1 : Bool) (v2 v3 : Int) (v4 : ByteArray) (ts : Tks) : Prop := ts = valToks ⟨v0, v1, v2, v3, v4⟩ ∧ Goodf ⟨⟨#[]⟩, ⟨v0, v1, v2, v3, v4⟩⟩
theorem float_snd {s0 : List S28} (W : Wft s0) (at_ : Int) (t : ByteArray) : ∀ (k j : Nat) (n e b n' e' b' : Int) (acc : Nat) (v0 : Int) (v1 : Bool) (v2 v3 : Int) (v4 : ByteArray), 0 ≤ e → acc < 16 ^ j → t.data.toList.take j = hexFst acc j → j ≤ t.size → (0 < j → t.size = 16) →
    say_parser_float.l0 k at_ t (t.size : Int) (j : Int) s0 n e b 3 false 0 (acc : Int) ⟨#[]⟩ = some (v0, v1, v2, v3, v4, n', e', b') →
    Snd s0 n e b n' e' b' (fun ts => ts = [(3, [41])] ∧ ∃ a : Nat, a < 18446744073709551616 ∧ t.data.toList = hex16 a ∧ v0 = 3 ∧ v1 = false ∧ v2 = 0 ∧ v3 = (a : Int) ∧ v4 = ⟨#[]⟩) := by
  intro k
  induction k with
  | zero => intro j n e b n' e' b' acc v0 v1 v2 v3 v4 _ _ _ _ _ h; simp [say_parser_float.l0] at h
  | succ k ih =>
    intro j n e b n' e' b' acc v0 v1 v2 v3 v4 he ha ht hj h16 h
    rw [say_parser_float.l0] at h
    by_cases hlt : (j : Int) < (t.size : Int)
    · have hjl : j < t.size := by omega
      rw [if_pos hlt, if_pos (by omega), if_pos hlt] at h
      have hbt : bt t (j : Int) = ((t.data.toList[j]'(by rw [ba_length]; exact hjl)).toNat : Int) := by
        unfold bt; rw [dif_pos (by simpa using hjl)]; rfl
      rw [hbt] at h
      replace h := Option.bind_eq_some_iff.mp h
      obtain ⟨d, hd, h⟩ := h
      split at h
      · replace h := Option.bind_eq_some_iff.mp h
        obtain ⟨⟨p1, p2, p3⟩, hp, h⟩ := h
        simp only [Option.some.injEq, Prod.mk.injEq] at h
        obtain ⟨_, _, _, _, _, rfl, rfl, rfl⟩ := h
        exact fail_Snd W he rfl hp
      · rename_i hd0
        split at h
        · rename_i hsz
          obtain ⟨hd16, hdc⟩ := nibble_of _ d hd (by omega)
          have hjs : j < 16 := by omega
          have hpw : acc < 1152921504606846976 := by
            have h1 : (16 : Nat) ^ j ≤ 16 ^ 15 := Nat.pow_le_pow_right (by decide) (by omega)
            have h2 : (16 : Nat) ^ 15 = 1152921504606846976 := by decide
            omega
          have hor := or_hex acc d.toNat hpw (by omega)
          rw [Int.toNat_of_nonneg (by omega)] at hor
          rw [hor, wrap_small j (by omega)] at h
          refine ih (j + 1) n e b n' e' b' (acc * 16 + d.toNat) v0 v1 v2 v3 v4 he ?_ ?_ (by omega) (fun _ => by omega) h
          · rw [Nat.pow_succ]; omega
          · rw [List.take_succ_eq_append_getElem (by rw [ba_length]; exact hjl), ht, hexFst_succ _ _ _ (by omega), ← hdc]
        · replace h := Option.bind_eq_some_iff.mp h
          obtain ⟨⟨p1, p2, p3⟩, hp, h⟩ := h
          simp only [Option.some.injEq, Prod.mk.injEq] at h
          obtain ⟨_, _, _, _, _, rfl, rfl, rfl⟩ := h
          exact fail_Snd W he rfl hp
    · rw [if_neg hlt] at h
      split at h
      · replace h := Option.bind_eq_some_iff.mp h
        obtain ⟨⟨p1, p2, p3⟩, hp, h⟩ := h
        replace h := Option.bind_eq_some_iff.mp h
        obtain ⟨⟨q1, q2, q3⟩, hq, h⟩ := h
        simp only [Option.some.injEq, Prod.mk.injEq] at h
        obtain ⟨_, _, _, _, _, rfl, rfl, rfl⟩ := h
        dsimp only at hq
        obtain ⟨rfl, rfl, hb3⟩ := fail_snd W he hp
        exact Snd.bind (Q1 := fun _ => False) ⟨rfl, fun hb => absurd hb (by omega)⟩ (mark_snd (m := [41]) W he hq) (fun _ _ h => h.elim)
      · rename_i hne
        replace h := Option.bind_eq_some_iff.mp h
        obtain ⟨⟨q1, q2, q3⟩, hq, h⟩ := h
        simp only [Option.some.injEq, Prod.mk.injEq] at h
        obtain ⟨rfl, rfl, rfl, rfl, rfl, rfl, rfl, rfl⟩ := h
        refine Snd.imp (mark_snd (m := [41]) W he hq) fun ts hts => ⟨hts, acc, ?_, ?_, rfl, rfl, rfl, rfl, rfl⟩
        all_goals
          have hjt : j = t.size := by omega
          have hj0 : 0 < j := by
            rcases Nat.eq_zero_or_pos j with h0 | h0
            · exfalso; apply hne; rw [Lib.toList_data]; apply List.eq_nil_of_length_eq_zero; rw [ba_length]; omega
            · exact h0
          have h16' := h16 hj0
        · have e16 : (16 : Nat) ^ 16 = 18446744073709551616 := by decide
          rw [hjt, h16'] at ha; omega
        · rw [← hexFst_16]
          have : j = 16 := by omega
          subst this
          rw [← ht, List.take_of_length_le (by rw [ba_length]; omega)]
theorem z_okv (v0 : Int) (v1 : Bool) (h : (v0 = 0 ∨ v0 = 1) ∧ (v0 = 0 → v1 = false)) : Goodf ⟨⟨#[]⟩, ⟨v0, v1, 0, 0, ⟨#[]⟩⟩⟩ := by
  refine ⟨by simp only; omega, by simp only; omega, ?_, ⟨by simp, by simp, by simp, by simp, by show (0 : Nat) ≤ _; omega⟩⟩
  rcases h.1 with h0 | h0
  · have := h.2 h0; subst h0; subst this; rfl
  · subst h0; rfl
theorem value_snd {s0 : List S28} (W : Wft s0) {k : Nat} {n e b n' e' b' v0 v2 v3 : Int} {v1 : Bool} {v4 : ByteArray} (he : 0 ≤ e) (h : say_parser_value.f k s0 n e b = some (v0, v1, v2, v3, v4, n', e', b')) : Snd s0 n e b n' e' b' (ValQ v0 v1 v2 v3 v4) := by
  unfold say_parser_value.f at h
  split at h
  · replace h := Option.bind_eq_some_iff.mp h
    obtain ⟨⟨p1, p2, p3⟩, hp, h⟩ := h
    simp only [Option.some.injEq, Prod.mk.injEq] at h
    obtain ⟨_, _, _, _, _, rfl, rfl, rfl⟩ := h
    exact fail_Snd W he rfl hp
  rename_i hb
  split at h
  · replace h := Option.bind_eq_some_iff.mp h
    obtain ⟨⟨p1, p2, p3⟩, hp, h⟩ := h
    simp only [Option.some.injEq, Prod.mk.injEq] at h
    obtain ⟨_, _, _, _, _, rfl, rfl, rfl⟩ := h
    exact fail_Snd W he rfl hp
  rename_i hn
  split at h
  case isFalse => simp at h
  rename_i h0
  have hl := W.len
  have hn2 : n.toNat < s0.length := by omega
  have hone := stands_one hn2
  rw [Int.toNat_of_nonneg h0] at hone
  have e1 : rd_T28 s0 n = s0[n.toNat] := by simp [rd_T28, List.getD_eq_getElem?_getD, hn2]
  have htx : (rd_T28 s0 n).f1.size ≤ 1000000 := by rw [e1]; exact W.txt _ (List.getElem_mem hn2)
  have w1 : wrap64 (n + 1) = n + 1 := by unfold wrap64; omega
  split at h
  · replace h := Option.bind_eq_some_iff.mp h
    obtain ⟨⟨x, p1, p2, p3⟩, hp, h⟩ := h
    simp only [Option.some.injEq, Prod.mk.injEq] at h
    obtain ⟨rfl, rfl, rfl, rfl, rfl, rfl, rfl, rfl⟩ := h
    refine Snd.imp (number_snd W he hp) fun ts hts => ?_
    obtain ⟨rfl, h1, h2⟩ := hts
    exact ⟨rfl, ⟨by simp, by simp, rfl, ⟨h1, h2, by simp, by simp, by show (0 : Nat) ≤ _; omega⟩⟩⟩
  split at h
  · rename_i hk
    simp only [Option.some.injEq, Prod.mk.injEq] at h
    obtain ⟨rfl, rfl, rfl, rfl, rfl, rfl, rfl, rfl⟩ := h
    rw [hk] at hone
    exact ⟨rfl, fun _ => ⟨by omega, rfl, n.toNat, _, by omega, hone, by rw [w1]; simp; omega, rfl, ⟨by simp, by simp, rfl, ⟨by simp, by simp, by simp, by simp, htx⟩⟩⟩⟩
  split at h
  · rename_i hk
    rw [hk] at hone
    generalize (rd_T28 s0 n).f1 = t at hone h htx
    have one : ∀ (v0 : Int) (v1 : Bool) (ts : List UInt8), t.toList = ts → ValQ v0 v1 0 0 ⟨#[]⟩ [(0, ts)] → Snd s0 n e b (wrap64 (n + 1)) e b (ValQ v0 v1 0 0 ⟨#[]⟩) := fun v0 v1 ts hts hq => by
      rw [Lib.toList_data] at hts
      rw [hts] at hone
      exact ⟨rfl, fun _ => ⟨by omega, rfl, n.toNat, _, by omega, hone, by rw [w1]; simp; omega, hq⟩⟩
    unfold say_parser_word.f at h
    cases k with
    | zero =>
      split at h
      · rename_i ht
        simp only [Option.some.injEq, Prod.mk.injEq] at h
        obtain ⟨rfl, rfl, rfl, rfl, rfl, rfl, rfl, rfl⟩ := h
        exact one 0 false _ ht ⟨rfl, z_okv 0 false ⟨.inl rfl, fun _ => rfl⟩⟩
      · split at h <;> simp [say_parser_word.j0] at h
    | succ k =>
      split at h
      · rename_i ht
        simp only [Option.some.injEq, Prod.mk.injEq] at h
        obtain ⟨rfl, rfl, rfl, rfl, rfl, rfl, rfl, rfl⟩ := h
        exact one 0 false _ ht ⟨rfl, z_okv 0 false ⟨.inl rfl, fun _ => rfl⟩⟩
      split at h
      · rename_i ht
        rw [say_parser_word.j0, if_pos (by rw [ht]; decide)] at h
        simp only [Option.some.injEq, Prod.mk.injEq] at h
        obtain ⟨rfl, rfl, rfl, rfl, rfl, rfl, rfl, rfl⟩ := h
        have hb1 : (t.toList == ([116, 114, 117, 101] : List UInt8)) = true := by rw [ht]; decide
        rw [hb1]
        exact one 1 true _ ht ⟨rfl, z_okv 1 true ⟨.inr rfl, fun h => absurd h (by decide)⟩⟩
      · rename_i hnt
        rw [say_parser_word.j0] at h
        split at h
        · rename_i hf
          simp only [Option.some.injEq, Prod.mk.injEq] at h
          obtain ⟨rfl, rfl, rfl, rfl, rfl, rfl, rfl, rfl⟩ := h
          have ht : t.toList = [102, 97, 108, 115, 101] := by simpa using hf
          have hb1 : (t.toList == ([116, 114, 117, 101] : List UInt8)) = false := by rw [ht]; decide
          rw [hb1]
          exact one 1 false _ ht ⟨rfl, z_okv 1 false ⟨.inr rfl, fun h => absurd h (by decide)⟩⟩
        · split at h
          · rename_i hfl
            replace h := Option.bind_eq_some_iff.mp h
            obtain ⟨⟨u0, u1, u2, u3, u4, u5, u6, u7⟩, hu, h⟩ := h
            simp only [Option.some.injEq, Prod.mk.injEq] at h
            obtain ⟨rfl, rfl, rfl, rfl, rfl, rfl, rfl, rfl⟩ := h
            unfold say_parser_float.f at hu
            replace hu := Option.bind_eq_some_iff.mp hu
            obtain ⟨⟨m1, m2, m3⟩, hm, hu⟩ := hu
            replace hu := Option.bind_eq_some_iff.mp hu
            obtain ⟨⟨q, q1, q2, q3⟩, hq, hu⟩ := hu
            dsimp only at hu hq
            have hsm := mark_snd (m := [40]) W he hm
            have em : m2 = e := hsm.1
            have hsq := take_snd W (by rw [em]; exact he) hq
            have eq : q2 = e := by rw [hsq.1, em]
            have hfirst : Snd s0 n e b (wrap64 (n + 1)) e b (fun ts => ts = [(0, [102, 108, 111, 97, 116])]) := by
              rw [Lib.toList_data] at hfl
              rw [hfl] at hone
              exact ⟨rfl, fun _ => ⟨by omega, rfl, n.toNat, _, by omega, hone, by rw [w1]; simp; omega, rfl⟩⟩
            split at hu
            · simp only [Option.some.injEq, Prod.mk.injEq] at hu
              obtain ⟨rfl, rfl, rfl, rfl, rfl, rfl, rfl, rfl⟩ := hu
              exact ⟨eq, fun hb2 => absurd hb2 (by omega)⟩
            · have hfs := float_snd W m1 q k 0 q1 q2 q3 u5 u6 u7 0 u0 u1 u2 u3 u4 (by rw [eq]; exact he) (by decide) rfl (by omega) (fun h => absurd h (Nat.lt_irrefl 0)) (by simpa using hu)
              refine Snd.bind hfirst (Snd.bind (Q := fun ts => ∃ a : Nat, a < 18446744073709551616 ∧ ts = [(3, [40]), (2, hex16 a), (3, [41])] ∧ u0 = 3 ∧ u1 = false ∧ u2 = 0 ∧ u3 = (a : Int) ∧ u4 = ⟨#[]⟩) hsm (Snd.bind (Q := fun ts => ∃ a : Nat, a < 18446744073709551616 ∧ ts = [(2, hex16 a), (3, [41])] ∧ u0 = 3 ∧ u1 = false ∧ u2 = 0 ∧ u3 = (a : Int) ∧ u4 = ⟨#[]⟩) hsq hfs ?_) ?_) ?_
              · rintro a c ⟨rfl, _, _⟩ ⟨rfl, v, hv, ht, hr⟩
                exact ⟨v, hv, by rw [ht]; rfl, hr⟩
              · rintro a c rfl ⟨v, hv, rfl, hr⟩
                exact ⟨v, hv, rfl, hr⟩
              · rintro a c rfl ⟨v, hv, rfl, rfl, rfl, rfl, rfl, rfl⟩
                refine ⟨by simp [valToks], ⟨by simp, by simp, rfl, ⟨by simp, by simp, by simp only; omega, by simp only; omega, by show (0 : Nat) ≤ _; omega⟩⟩⟩
          · replace h := Option.bind_eq_some_iff.mp h
            obtain ⟨⟨p1, p2, p3⟩, hp, h⟩ := h
            simp only [Option.some.injEq, Prod.mk.injEq] at h
            obtain ⟨_, _, _, _, _, rfl, rfl, rfl⟩ := h
            exact fail_Snd W he rfl hp
  · replace h := Option.bind_eq_some_iff.mp h
    obtain ⟨⟨p1, p2, p3⟩, hp, h⟩ := h
    simp only [Option.some.injEq, Prod.mk.injEq] at h
    obtain ⟨_, _, _, _, _, rfl, rfl, rfl⟩ := h
    exact fail_Snd W he rfl hp

end Go.Proofs.Ytokkjnfdfbpphaa.A
