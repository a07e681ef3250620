/- The functions that this claim's statement reaches, each with what it computes and the proof that it does. -/
import Derived.Test.YtokkjnfdfbpphaaQ2
namespace Go.Proofs.Ytokkjnfdfbpphaa.A
open Go.RowKit Go.Proofs.YtokkjnfdfbpphaaW.PrintWords Go.Proofs.YtokkjnfdfbpphaaW.PrintLast Go.Proofs.YtokkjnfdfbpphaaW.PrintMore
attribute [local go_sem] max2_int min2_int max_two min_two max_three min_three max_four min_four   -- for this text's walks alone
set_option linter.unusedVariables false
set_option linter.unusedSimpArgs false

/-! ### chartularylaw23_awake: function 12 -/
def chartularylaw23_awake.f (k : Nat)  : Option (Bool) := (say_Script.f k (⟨#[116, 105, 99, 107, 32, 53, 59]⟩ : ByteArray)).bind fun bt224 => ((say_Script.f k (⟨#[116, 105, 99, 107, 32, 45, 48, 59]⟩ : ByteArray)).bind fun bt229 => (if bt224.2.2 = 0 then (if (bt224.1.length : Int) = 1 then (if 0 < (bt224.1.length : Int) then (if ((rd_T45 bt224.1 0).f0) = 8 then (if ((rd_T45 bt224.1 0).f6) = 5 then (if bt229.2.2 = 4 then (some (bt229.2.1 == 5)) else (some false)) else (some false)) else (some false)) else (none)) else (some false)) else (some false)))
theorem chartularylaw23_awake.mono : ∀ k, LeO (chartularylaw23_awake.f k ) (chartularylaw23_awake.f (k + 1) ) := by
  intro  k
  unfold chartularylaw23_awake.f
  repeat' first
      | (with_reducible exact say_Script.mono _ _)
      | (with_reducible exact LeO.refl _)
      | (with_reducible exact LeO.none _)
      | (with_reducible refine LeO.ite ?_ ?_)
      | (with_reducible refine LeO.bind ?_ (fun _ => ?_))
      | exact say_Script.mono _ _
      | exact LeO.none _
      | refine LeO.ite ?_ ?_
      | refine LeO.bind ?_ (fun _ => ?_)
set_option maxHeartbeats 8000000 in
set_option maxRecDepth 100000 in
theorem chartularylaw23_awake.calls (k : Nat)  (r : Bool) (w : World) (h : chartularylaw23_awake.f k  = some r) :
    Calls Try.prog 12 #[] w fun e w' => e = .returned (.bool r) ∧ Below w.heap.size w w' := by
  have HB := Aside0.mk (Below.refl w.heap.size w)
  have H : ((say_Script.f k (⟨#[116, 105, 99, 107, 32, 53, 59]⟩ : ByteArray)).bind fun bt224 => ((say_Script.f k (⟨#[116, 105, 99, 107, 32, 45, 48, 59]⟩ : ByteArray)).bind fun bt229 => (if bt224.2.2 = 0 then (if (bt224.1.length : Int) = 1 then (if 0 < (bt224.1.length : Int) then (if ((rd_T45 bt224.1 0).f0) = 8 then (if ((rd_T45 bt224.1 0).f6) = 5 then (if bt229.2.2 = 4 then (some (bt229.2.1 == 5)) else (some false)) else (some false)) else (some false)) else (none)) else (some false)) else (some false)))) = some r := h
  clear h
  replace H := Option.bind_eq_some_iff.mp H
  obtain ⟨⟨t224, t225, t226⟩, A10, H⟩ := H
  replace H : ((say_Script.f k (⟨#[116, 105, 99, 107, 32, 45, 48, 59]⟩ : ByteArray)).bind fun bt229 => (if t226 = 0 then (if (t224.length : Int) = 1 then (if 0 < (t224.length : Int) then (if ((rd_T45 t224 0).f0) = 8 then (if ((rd_T45 t224 0).f6) = 5 then (if bt229.2.2 = 4 then (some (bt229.2.1 == 5)) else (some false)) else (some false)) else (some false)) else (none)) else (some false)) else (some false))) = some r := H
  have A1 := Aside0.mk A10
  clear A10
  replace H := Option.bind_eq_some_iff.mp H
  obtain ⟨⟨t229, t230, t231⟩, A20, H⟩ := H
  replace H : (if t226 = 0 then (if (t224.length : Int) = 1 then (if 0 < (t224.length : Int) then (if ((rd_T45 t224 0).f0) = 8 then (if ((rd_T45 t224 0).f6) = 5 then (if t231 = 4 then (some (t230 == 5)) else (some false)) else (some false)) else (some false)) else (none)) else (some false)) else (some false)) = some r := H
  have A2 := Aside0.mk A20
  clear A20
  by_cases c3 : t226 = 0
  · rw [if_pos c3] at H
    have c3b0 : (t226 == 0) = true := beq_iff_eq.mpr c3
    have c3b1 : (t226 != 0) = false := bne_eq_false_iff_eq.mpr c3
    clear c3
    by_cases c4 : (t224.length : Int) = 1
    · rw [if_pos c4] at H
      have c4b0 : ((t224.length : Int) == 1) = true := beq_iff_eq.mpr c4
      have c4b1 : ((t224.length : Int) != 1) = false := bne_eq_false_iff_eq.mpr c4
      clear c4
      by_cases c5 : 0 < (t224.length : Int)
      · rw [if_pos c5] at H
        have c5b0 : decide (0 < (t224.length : Int)) = true := decide_eq_true c5
        have c5b1 : decide (0 < t224.length) = true := decide_eq_true (by omega)
        clear c5
        by_cases c6 : ((rd_T45 t224 0).f0) = 8
        · rw [if_pos c6] at H
          have c6b0 : (((rd_T45 t224 0).f0) == 8) = true := beq_iff_eq.mpr c6
          have c6b1 : (((rd_T45 t224 0).f0) != 8) = false := bne_eq_false_iff_eq.mpr c6
          clear c6
          by_cases c7 : ((rd_T45 t224 0).f6) = 5
          · rw [if_pos c7] at H
            have c7b0 : (((rd_T45 t224 0).f6) == 5) = true := beq_iff_eq.mpr c7
            have c7b1 : (((rd_T45 t224 0).f6) != 5) = false := bne_eq_false_iff_eq.mpr c7
            clear c7
            by_cases c8 : t231 = 4
            · rw [if_pos c8] at H
              have c8b0 : (t231 == 4) = true := beq_iff_eq.mpr c8
              have c8b1 : (t231 != 4) = false := bne_eq_false_iff_eq.mpr c8
              clear c8
              obtain rfl := Option.some.inj H
              go_enter Try.func12, Try.ntmps12
              go_wp2_with (first | ((with_reducible refine gate_callee (f := 19) rfl ?_); refine goesL_ (some 8) rfl rfl Try.func19 (by kernel_rfl) rfl #[.string (⟨#[116, 105, 99, 107, 32, 53, 59]⟩ : ByteArray)] rfl (by (try simp only [List.map_toArray, List.map_cons, List.map_nil]); first | done | rfl | (simp only [List.length_drop, List.length_take]; rfl)) ?_; (with_reducible refine (say_Script.calls k (⟨#[116, 105, 99, 107, 32, 53, 59]⟩ : ByteArray) t224 t225 t226 _ A1.out).mono ?_); rintro e w9 ⟨v227, rfl, ho0, hb⟩; refine ⟨_, rfl, ?_⟩; have n0_ := Aside0.mk (Kd.S_lower ho0 (below_size (by repeat (first | (with_reducible first | exact HB.out | apply below_alloc | apply pw_below_drewN | apply below_drew1) | exact HB.out)))); have n1_ := Aside0.mk (below_step (by repeat (first | (with_reducible first | exact HB.out | apply below_alloc | apply pw_below_drewN | apply below_drew1) | exact HB.out)) hb); clear HB; have HO228 := n0_; have HB := n1_; clear n0_ n1_; (try clear hb); (try clear hb2); (try clear hk); (try clear hi); (try clear ho0)) | ((with_reducible refine gate_callee (f := 19) rfl ?_); refine goesL_ (some 13) rfl rfl Try.func19 (by kernel_rfl) rfl #[.string (⟨#[116, 105, 99, 107, 32, 45, 48, 59]⟩ : ByteArray)] rfl (by (try simp only [List.map_toArray, List.map_cons, List.map_nil]); first | done | rfl | (simp only [List.length_drop, List.length_take]; rfl)) ?_; (with_reducible refine (say_Script.calls k (⟨#[116, 105, 99, 107, 32, 45, 48, 59]⟩ : ByteArray) t229 t230 t231 _ A2.out).mono ?_); rintro e w10 ⟨v232, rfl, ho0, hb⟩; refine ⟨_, rfl, ?_⟩; have n0_ := Aside0.mk (Kd.S_elder' (by (with_reducible repeat (first | apply Kd.S_alloc | apply Kd.S_drewN | apply Kd.S_drew)); exact HO228.out) (Kd.S_base ho0) hb); have n1_ := Aside0.mk (Kd.S_lower (Kd.S_new' ho0 (Kd.S_lt (by (with_reducible repeat (first | apply Kd.S_alloc | apply Kd.S_drewN | apply Kd.S_drew)); exact HO228.out))) (below_size (by repeat (first | (with_reducible first | exact HB.out | apply below_alloc | apply pw_below_drewN | apply below_drew1) | exact HB.out)))); have n2_ := Aside0.mk (below_step (by repeat (first | (with_reducible first | exact HB.out | apply below_alloc | apply pw_below_drewN | apply below_drew1) | exact HB.out)) hb); clear HO228; clear HB; have HO228 := n0_; have HO233 := n1_; have HB := n2_; clear n0_ n1_ n2_; (try clear hb); (try clear hb2); (try clear hk); (try clear hi); (try clear ho0); obtain ⟨Ao11, co11, eo11⟩ := Kd.S_slice HO228.out; subst eo11; have p234 : 0 ≤ (0 : Int) := (by omega); have q234 : 0 < (t224.length : Int) := of_decide_eq_true (by first | (with_reducible assumption) | assumption); obtain ⟨ad234, A234_3, c234_3, A234_6, c234_6, e234, hx234_0, hx234_1, hx234_2, hx234_3, hx234_4, hx234_5, hx234_6, hx234_7, hx234_8, hx234_9, hx234_10, hx234_11, hl234_3, hi234_3, hl234_6, hi234_6⟩ := at_T45 (Kd.S_reads' HO228.out).2.2 0 p234 q234; cases e234; obtain ⟨ce234, hce234, hMe234, hcc234⟩ := Kd.S_get HO228.out z45 0 p234 (by first | exact q234 | exact of_decide_eq_true (by first | (with_reducible assumption) | assumption) | (have e_ := (Kd.S_reads' HO228.out).1; omega)); obtain ⟨ve234_3, ve234_6, rfl, ge234_3, ge234_6⟩ := k45_openM hMe234; have hv234_3 := hcc234 3 _ rfl; rw [add_field _ _ 3 (by omega)] at hv234_3; replace hv234_3 := Option.some.inj (hv234_3.symm.trans hx234_3); rw [hv234_3] at ge234_3; have HL234_3 := Aside0.mk (show Kd.R k87 87 _ _ _ _ ((rd_T45 t224 0).f1.f2) from ge234_3); clear hv234_3 ge234_3; have hv234_6 := hcc234 6 _ rfl; rw [add_field _ _ 6 (by omega)] at hv234_6; replace hv234_6 := Option.some.inj (hv234_6.symm.trans hx234_6); rw [hv234_6] at ge234_6; have HL234_6 := Aside0.mk (show Kd.R Kd.string 9 _ _ _ _ ((rd_T45 t224 0).f4) from ge234_6); clear hv234_6 ge234_6; clear hcc234 hce234; have qi234 : (0 < t224.length) = True := eq_true (by omega); (try rw [show ((0 : Int)).toNat = 0 from rfl] at hx234_0); (try rw [show 0 * 12 = 0 from rfl] at hx234_0); (try rw [Addr.add_zero'] at hx234_0); (try rw [show ((0 : Int)).toNat = 0 from rfl] at hx234_1); (try rw [show 0 * 12 = 0 from rfl] at hx234_1); (try rw [Addr.add_zero'] at hx234_1); (try rw [show ((0 : Int)).toNat = 0 from rfl] at hx234_2); (try rw [show 0 * 12 = 0 from rfl] at hx234_2); (try rw [Addr.add_zero'] at hx234_2); (try rw [show ((0 : Int)).toNat = 0 from rfl] at hx234_3); (try rw [show 0 * 12 = 0 from rfl] at hx234_3); (try rw [Addr.add_zero'] at hx234_3); (try rw [show ((0 : Int)).toNat = 0 from rfl] at hx234_4); (try rw [show 0 * 12 = 0 from rfl] at hx234_4); (try rw [Addr.add_zero'] at hx234_4); (try rw [show ((0 : Int)).toNat = 0 from rfl] at hx234_5); (try rw [show 0 * 12 = 0 from rfl] at hx234_5); (try rw [Addr.add_zero'] at hx234_5); (try rw [show ((0 : Int)).toNat = 0 from rfl] at hx234_6); (try rw [show 0 * 12 = 0 from rfl] at hx234_6); (try rw [Addr.add_zero'] at hx234_6); (try rw [show ((0 : Int)).toNat = 0 from rfl] at hx234_7); (try rw [show 0 * 12 = 0 from rfl] at hx234_7); (try rw [Addr.add_zero'] at hx234_7); (try rw [show ((0 : Int)).toNat = 0 from rfl] at hx234_8); (try rw [show 0 * 12 = 0 from rfl] at hx234_8); (try rw [Addr.add_zero'] at hx234_8); (try rw [show ((0 : Int)).toNat = 0 from rfl] at hx234_9); (try rw [show 0 * 12 = 0 from rfl] at hx234_9); (try rw [Addr.add_zero'] at hx234_9); (try rw [show ((0 : Int)).toNat = 0 from rfl] at hx234_10); (try rw [show 0 * 12 = 0 from rfl] at hx234_10); (try rw [Addr.add_zero'] at hx234_10); (try rw [show ((0 : Int)).toNat = 0 from rfl] at hx234_11); (try rw [show 0 * 12 = 0 from rfl] at hx234_11); (try rw [Addr.add_zero'] at hx234_11); have HR234_3 := Aside0.mk hi234_3; have HC234_3 := Aside0.mk hl234_3; clear hi234_3 hl234_3; have HR234_6 := Aside0.mk hi234_6; have HC234_6 := Aside0.mk hl234_6; clear hi234_6 hl234_6; replace p234 := eq_true p234; replace q234 := eq_true q234; have p235 : 0 ≤ (0 : Int) := (by omega); have q235 : 0 < (t224.length : Int) := of_decide_eq_true (by first | (with_reducible assumption) | assumption); obtain ⟨ad235, A235_3, c235_3, A235_6, c235_6, e235, hx235_0, hx235_1, hx235_2, hx235_3, hx235_4, hx235_5, hx235_6, hx235_7, hx235_8, hx235_9, hx235_10, hx235_11, hl235_3, hi235_3, hl235_6, hi235_6⟩ := at_T45 (Kd.S_reads' HO228.out).2.2 0 p235 q235; obtain rfl : ad234 = ad235 := (by injection e235); obtain ⟨ce235, hce235, hMe235, hcc235⟩ := Kd.S_get HO228.out z45 0 p235 (by first | exact q235 | exact of_decide_eq_true (by first | (with_reducible assumption) | assumption) | (have e_ := (Kd.S_reads' HO228.out).1; omega)); obtain ⟨ve235_3, ve235_6, rfl, ge235_3, ge235_6⟩ := k45_openM hMe235; have hv235_3 := hcc235 3 _ rfl; rw [add_field _ _ 3 (by omega)] at hv235_3; replace hv235_3 := Option.some.inj (hv235_3.symm.trans hx235_3); rw [hv235_3] at ge235_3; have HL235_3 := Aside0.mk (show Kd.R k87 87 _ _ _ _ ((rd_T45 t224 0).f1.f2) from ge235_3); clear hv235_3 ge235_3; have hv235_6 := hcc235 6 _ rfl; rw [add_field _ _ 6 (by omega)] at hv235_6; replace hv235_6 := Option.some.inj (hv235_6.symm.trans hx235_6); rw [hv235_6] at ge235_6; have HL235_6 := Aside0.mk (show Kd.R Kd.string 9 _ _ _ _ ((rd_T45 t224 0).f4) from ge235_6); clear hv235_6 ge235_6; clear hcc235 hce235; have qi235 : (0 < t224.length) = True := eq_true (by omega); (try rw [show ((0 : Int)).toNat = 0 from rfl] at hx235_0); (try rw [show 0 * 12 = 0 from rfl] at hx235_0); (try rw [Addr.add_zero'] at hx235_0); (try rw [show ((0 : Int)).toNat = 0 from rfl] at hx235_1); (try rw [show 0 * 12 = 0 from rfl] at hx235_1); (try rw [Addr.add_zero'] at hx235_1); (try rw [show ((0 : Int)).toNat = 0 from rfl] at hx235_2); (try rw [show 0 * 12 = 0 from rfl] at hx235_2); (try rw [Addr.add_zero'] at hx235_2); (try rw [show ((0 : Int)).toNat = 0 from rfl] at hx235_3); (try rw [show 0 * 12 = 0 from rfl] at hx235_3); (try rw [Addr.add_zero'] at hx235_3); (try rw [show ((0 : Int)).toNat = 0 from rfl] at hx235_4); (try rw [show 0 * 12 = 0 from rfl] at hx235_4); (try rw [Addr.add_zero'] at hx235_4); (try rw [show ((0 : Int)).toNat = 0 from rfl] at hx235_5); (try rw [show 0 * 12 = 0 from rfl] at hx235_5); (try rw [Addr.add_zero'] at hx235_5); (try rw [show ((0 : Int)).toNat = 0 from rfl] at hx235_6); (try rw [show 0 * 12 = 0 from rfl] at hx235_6); (try rw [Addr.add_zero'] at hx235_6); (try rw [show ((0 : Int)).toNat = 0 from rfl] at hx235_7); (try rw [show 0 * 12 = 0 from rfl] at hx235_7); (try rw [Addr.add_zero'] at hx235_7); (try rw [show ((0 : Int)).toNat = 0 from rfl] at hx235_8); (try rw [show 0 * 12 = 0 from rfl] at hx235_8); (try rw [Addr.add_zero'] at hx235_8); (try rw [show ((0 : Int)).toNat = 0 from rfl] at hx235_9); (try rw [show 0 * 12 = 0 from rfl] at hx235_9); (try rw [Addr.add_zero'] at hx235_9); (try rw [show ((0 : Int)).toNat = 0 from rfl] at hx235_10); (try rw [show 0 * 12 = 0 from rfl] at hx235_10); (try rw [Addr.add_zero'] at hx235_10); (try rw [show ((0 : Int)).toNat = 0 from rfl] at hx235_11); (try rw [show 0 * 12 = 0 from rfl] at hx235_11); (try rw [Addr.add_zero'] at hx235_11); have HR235_3 := Aside0.mk hi235_3; have HC235_3 := Aside0.mk hl235_3; clear hi235_3 hl235_3; have HR235_6 := Aside0.mk hi235_6; have HC235_6 := Aside0.mk hl235_6; clear hi235_6 hl235_6; replace p235 := eq_true p235; replace q235 := eq_true q235; have ea_ := Option.some.inj (hx234_3.symm.trans hx235_3); injection ea_ with ea_ en_ ec_; subst ea_; subst ec_; clear en_; have ea_ := Option.some.inj (hx234_6.symm.trans hx235_6); injection ea_ with ea_ en_ ec_; subst ea_; subst ec_; clear en_))
              go_ret
              exact ⟨by first | rfl | (simp [errW_none, errW_some] <;> rfl) | (simp [*, errW_none, errW_some] <;> rfl), by repeat (first | (with_reducible first | exact HB.out | apply below_alloc | apply pw_below_drewN | apply below_drew1) | exact HB.out)⟩
            · rw [if_neg c8] at H
              have c8b0 : (t231 == 4) = false := beq_eq_false_iff_ne.mpr c8
              have c8b1 : (t231 != 4) = true := bne_iff_ne.mpr c8
              obtain rfl := Option.some.inj H
              go_enter Try.func12, Try.ntmps12
              go_wp2_with (first | ((with_reducible refine gate_callee (f := 19) rfl ?_); refine goesL_ (some 8) rfl rfl Try.func19 (by kernel_rfl) rfl #[.string (⟨#[116, 105, 99, 107, 32, 53, 59]⟩ : ByteArray)] rfl (by (try simp only [List.map_toArray, List.map_cons, List.map_nil]); first | done | rfl | (simp only [List.length_drop, List.length_take]; rfl)) ?_; (with_reducible refine (say_Script.calls k (⟨#[116, 105, 99, 107, 32, 53, 59]⟩ : ByteArray) t224 t225 t226 _ A1.out).mono ?_); rintro e w12 ⟨v227, rfl, ho0, hb⟩; refine ⟨_, rfl, ?_⟩; have n0_ := Aside0.mk (Kd.S_lower ho0 (below_size (by repeat (first | (with_reducible first | exact HB.out | apply below_alloc | apply pw_below_drewN | apply below_drew1) | exact HB.out)))); have n1_ := Aside0.mk (below_step (by repeat (first | (with_reducible first | exact HB.out | apply below_alloc | apply pw_below_drewN | apply below_drew1) | exact HB.out)) hb); clear HB; have HO228 := n0_; have HB := n1_; clear n0_ n1_; (try clear hb); (try clear hb2); (try clear hk); (try clear hi); (try clear ho0)) | ((with_reducible refine gate_callee (f := 19) rfl ?_); refine goesL_ (some 13) rfl rfl Try.func19 (by kernel_rfl) rfl #[.string (⟨#[116, 105, 99, 107, 32, 45, 48, 59]⟩ : ByteArray)] rfl (by (try simp only [List.map_toArray, List.map_cons, List.map_nil]); first | done | rfl | (simp only [List.length_drop, List.length_take]; rfl)) ?_; (with_reducible refine (say_Script.calls k (⟨#[116, 105, 99, 107, 32, 45, 48, 59]⟩ : ByteArray) t229 t230 t231 _ A2.out).mono ?_); rintro e w13 ⟨v232, rfl, ho0, hb⟩; refine ⟨_, rfl, ?_⟩; have n0_ := Aside0.mk (Kd.S_elder' (by (with_reducible repeat (first | apply Kd.S_alloc | apply Kd.S_drewN | apply Kd.S_drew)); exact HO228.out) (Kd.S_base ho0) hb); have n1_ := Aside0.mk (Kd.S_lower (Kd.S_new' ho0 (Kd.S_lt (by (with_reducible repeat (first | apply Kd.S_alloc | apply Kd.S_drewN | apply Kd.S_drew)); exact HO228.out))) (below_size (by repeat (first | (with_reducible first | exact HB.out | apply below_alloc | apply pw_below_drewN | apply below_drew1) | exact HB.out)))); have n2_ := Aside0.mk (below_step (by repeat (first | (with_reducible first | exact HB.out | apply below_alloc | apply pw_below_drewN | apply below_drew1) | exact HB.out)) hb); clear HO228; clear HB; have HO228 := n0_; have HO233 := n1_; have HB := n2_; clear n0_ n1_ n2_; (try clear hb); (try clear hb2); (try clear hk); (try clear hi); (try clear ho0); obtain ⟨Ao14, co14, eo14⟩ := Kd.S_slice HO228.out; subst eo14; have p234 : 0 ≤ (0 : Int) := (by omega); have q234 : 0 < (t224.length : Int) := of_decide_eq_true (by first | (with_reducible assumption) | assumption); obtain ⟨ad234, A234_3, c234_3, A234_6, c234_6, e234, hx234_0, hx234_1, hx234_2, hx234_3, hx234_4, hx234_5, hx234_6, hx234_7, hx234_8, hx234_9, hx234_10, hx234_11, hl234_3, hi234_3, hl234_6, hi234_6⟩ := at_T45 (Kd.S_reads' HO228.out).2.2 0 p234 q234; cases e234; obtain ⟨ce234, hce234, hMe234, hcc234⟩ := Kd.S_get HO228.out z45 0 p234 (by first | exact q234 | exact of_decide_eq_true (by first | (with_reducible assumption) | assumption) | (have e_ := (Kd.S_reads' HO228.out).1; omega)); obtain ⟨ve234_3, ve234_6, rfl, ge234_3, ge234_6⟩ := k45_openM hMe234; have hv234_3 := hcc234 3 _ rfl; rw [add_field _ _ 3 (by omega)] at hv234_3; replace hv234_3 := Option.some.inj (hv234_3.symm.trans hx234_3); rw [hv234_3] at ge234_3; have HL234_3 := Aside0.mk (show Kd.R k87 87 _ _ _ _ ((rd_T45 t224 0).f1.f2) from ge234_3); clear hv234_3 ge234_3; have hv234_6 := hcc234 6 _ rfl; rw [add_field _ _ 6 (by omega)] at hv234_6; replace hv234_6 := Option.some.inj (hv234_6.symm.trans hx234_6); rw [hv234_6] at ge234_6; have HL234_6 := Aside0.mk (show Kd.R Kd.string 9 _ _ _ _ ((rd_T45 t224 0).f4) from ge234_6); clear hv234_6 ge234_6; clear hcc234 hce234; have qi234 : (0 < t224.length) = True := eq_true (by omega); (try rw [show ((0 : Int)).toNat = 0 from rfl] at hx234_0); (try rw [show 0 * 12 = 0 from rfl] at hx234_0); (try rw [Addr.add_zero'] at hx234_0); (try rw [show ((0 : Int)).toNat = 0 from rfl] at hx234_1); (try rw [show 0 * 12 = 0 from rfl] at hx234_1); (try rw [Addr.add_zero'] at hx234_1); (try rw [show ((0 : Int)).toNat = 0 from rfl] at hx234_2); (try rw [show 0 * 12 = 0 from rfl] at hx234_2); (try rw [Addr.add_zero'] at hx234_2); (try rw [show ((0 : Int)).toNat = 0 from rfl] at hx234_3); (try rw [show 0 * 12 = 0 from rfl] at hx234_3); (try rw [Addr.add_zero'] at hx234_3); (try rw [show ((0 : Int)).toNat = 0 from rfl] at hx234_4); (try rw [show 0 * 12 = 0 from rfl] at hx234_4); (try rw [Addr.add_zero'] at hx234_4); (try rw [show ((0 : Int)).toNat = 0 from rfl] at hx234_5); (try rw [show 0 * 12 = 0 from rfl] at hx234_5); (try rw [Addr.add_zero'] at hx234_5); (try rw [show ((0 : Int)).toNat = 0 from rfl] at hx234_6); (try rw [show 0 * 12 = 0 from rfl] at hx234_6); (try rw [Addr.add_zero'] at hx234_6); (try rw [show ((0 : Int)).toNat = 0 from rfl] at hx234_7); (try rw [show 0 * 12 = 0 from rfl] at hx234_7); (try rw [Addr.add_zero'] at hx234_7); (try rw [show ((0 : Int)).toNat = 0 from rfl] at hx234_8); (try rw [show 0 * 12 = 0 from rfl] at hx234_8); (try rw [Addr.add_zero'] at hx234_8); (try rw [show ((0 : Int)).toNat = 0 from rfl] at hx234_9); (try rw [show 0 * 12 = 0 from rfl] at hx234_9); (try rw [Addr.add_zero'] at hx234_9); (try rw [show ((0 : Int)).toNat = 0 from rfl] at hx234_10); (try rw [show 0 * 12 = 0 from rfl] at hx234_10); (try rw [Addr.add_zero'] at hx234_10); (try rw [show ((0 : Int)).toNat = 0 from rfl] at hx234_11); (try rw [show 0 * 12 = 0 from rfl] at hx234_11); (try rw [Addr.add_zero'] at hx234_11); have HR234_3 := Aside0.mk hi234_3; have HC234_3 := Aside0.mk hl234_3; clear hi234_3 hl234_3; have HR234_6 := Aside0.mk hi234_6; have HC234_6 := Aside0.mk hl234_6; clear hi234_6 hl234_6; replace p234 := eq_true p234; replace q234 := eq_true q234; have p235 : 0 ≤ (0 : Int) := (by omega); have q235 : 0 < (t224.length : Int) := of_decide_eq_true (by first | (with_reducible assumption) | assumption); obtain ⟨ad235, A235_3, c235_3, A235_6, c235_6, e235, hx235_0, hx235_1, hx235_2, hx235_3, hx235_4, hx235_5, hx235_6, hx235_7, hx235_8, hx235_9, hx235_10, hx235_11, hl235_3, hi235_3, hl235_6, hi235_6⟩ := at_T45 (Kd.S_reads' HO228.out).2.2 0 p235 q235; obtain rfl : ad234 = ad235 := (by injection e235); obtain ⟨ce235, hce235, hMe235, hcc235⟩ := Kd.S_get HO228.out z45 0 p235 (by first | exact q235 | exact of_decide_eq_true (by first | (with_reducible assumption) | assumption) | (have e_ := (Kd.S_reads' HO228.out).1; omega)); obtain ⟨ve235_3, ve235_6, rfl, ge235_3, ge235_6⟩ := k45_openM hMe235; have hv235_3 := hcc235 3 _ rfl; rw [add_field _ _ 3 (by omega)] at hv235_3; replace hv235_3 := Option.some.inj (hv235_3.symm.trans hx235_3); rw [hv235_3] at ge235_3; have HL235_3 := Aside0.mk (show Kd.R k87 87 _ _ _ _ ((rd_T45 t224 0).f1.f2) from ge235_3); clear hv235_3 ge235_3; have hv235_6 := hcc235 6 _ rfl; rw [add_field _ _ 6 (by omega)] at hv235_6; replace hv235_6 := Option.some.inj (hv235_6.symm.trans hx235_6); rw [hv235_6] at ge235_6; have HL235_6 := Aside0.mk (show Kd.R Kd.string 9 _ _ _ _ ((rd_T45 t224 0).f4) from ge235_6); clear hv235_6 ge235_6; clear hcc235 hce235; have qi235 : (0 < t224.length) = True := eq_true (by omega); (try rw [show ((0 : Int)).toNat = 0 from rfl] at hx235_0); (try rw [show 0 * 12 = 0 from rfl] at hx235_0); (try rw [Addr.add_zero'] at hx235_0); (try rw [show ((0 : Int)).toNat = 0 from rfl] at hx235_1); (try rw [show 0 * 12 = 0 from rfl] at hx235_1); (try rw [Addr.add_zero'] at hx235_1); (try rw [show ((0 : Int)).toNat = 0 from rfl] at hx235_2); (try rw [show 0 * 12 = 0 from rfl] at hx235_2); (try rw [Addr.add_zero'] at hx235_2); (try rw [show ((0 : Int)).toNat = 0 from rfl] at hx235_3); (try rw [show 0 * 12 = 0 from rfl] at hx235_3); (try rw [Addr.add_zero'] at hx235_3); (try rw [show ((0 : Int)).toNat = 0 from rfl] at hx235_4); (try rw [show 0 * 12 = 0 from rfl] at hx235_4); (try rw [Addr.add_zero'] at hx235_4); (try rw [show ((0 : Int)).toNat = 0 from rfl] at hx235_5); (try rw [show 0 * 12 = 0 from rfl] at hx235_5); (try rw [Addr.add_zero'] at hx235_5); (try rw [show ((0 : Int)).toNat = 0 from rfl] at hx235_6); (try rw [show 0 * 12 = 0 from rfl] at hx235_6); (try rw [Addr.add_zero'] at hx235_6); (try rw [show ((0 : Int)).toNat = 0 from rfl] at hx235_7); (try rw [show 0 * 12 = 0 from rfl] at hx235_7); (try rw [Addr.add_zero'] at hx235_7); (try rw [show ((0 : Int)).toNat = 0 from rfl] at hx235_8); (try rw [show 0 * 12 = 0 from rfl] at hx235_8); (try rw [Addr.add_zero'] at hx235_8); (try rw [show ((0 : Int)).toNat = 0 from rfl] at hx235_9); (try rw [show 0 * 12 = 0 from rfl] at hx235_9); (try rw [Addr.add_zero'] at hx235_9); (try rw [show ((0 : Int)).toNat = 0 from rfl] at hx235_10); (try rw [show 0 * 12 = 0 from rfl] at hx235_10); (try rw [Addr.add_zero'] at hx235_10); (try rw [show ((0 : Int)).toNat = 0 from rfl] at hx235_11); (try rw [show 0 * 12 = 0 from rfl] at hx235_11); (try rw [Addr.add_zero'] at hx235_11); have HR235_3 := Aside0.mk hi235_3; have HC235_3 := Aside0.mk hl235_3; clear hi235_3 hl235_3; have HR235_6 := Aside0.mk hi235_6; have HC235_6 := Aside0.mk hl235_6; clear hi235_6 hl235_6; replace p235 := eq_true p235; replace q235 := eq_true q235; have ea_ := Option.some.inj (hx234_3.symm.trans hx235_3); injection ea_ with ea_ en_ ec_; subst ea_; subst ec_; clear en_; have ea_ := Option.some.inj (hx234_6.symm.trans hx235_6); injection ea_ with ea_ en_ ec_; subst ea_; subst ec_; clear en_))
              go_ret
              exact ⟨by first | rfl | (simp [errW_none, errW_some] <;> rfl) | (simp [*, errW_none, errW_some] <;> rfl), by repeat (first | (with_reducible first | exact HB.out | apply below_alloc | apply pw_below_drewN | apply below_drew1) | exact HB.out)⟩
          · rw [if_neg c7] at H
            have c7b0 : (((rd_T45 t224 0).f6) == 5) = false := beq_eq_false_iff_ne.mpr c7
            have c7b1 : (((rd_T45 t224 0).f6) != 5) = true := bne_iff_ne.mpr c7
            obtain rfl := Option.some.inj H
            go_enter Try.func12, Try.ntmps12
            go_wp2_with (first | ((with_reducible refine gate_callee (f := 19) rfl ?_); refine goesL_ (some 8) rfl rfl Try.func19 (by kernel_rfl) rfl #[.string (⟨#[116, 105, 99, 107, 32, 53, 59]⟩ : ByteArray)] rfl (by (try simp only [List.map_toArray, List.map_cons, List.map_nil]); first | done | rfl | (simp only [List.length_drop, List.length_take]; rfl)) ?_; (with_reducible refine (say_Script.calls k (⟨#[116, 105, 99, 107, 32, 53, 59]⟩ : ByteArray) t224 t225 t226 _ A1.out).mono ?_); rintro e w15 ⟨v227, rfl, ho0, hb⟩; refine ⟨_, rfl, ?_⟩; have n0_ := Aside0.mk (Kd.S_lower ho0 (below_size (by repeat (first | (with_reducible first | exact HB.out | apply below_alloc | apply pw_below_drewN | apply below_drew1) | exact HB.out)))); have n1_ := Aside0.mk (below_step (by repeat (first | (with_reducible first | exact HB.out | apply below_alloc | apply pw_below_drewN | apply below_drew1) | exact HB.out)) hb); clear HB; have HO228 := n0_; have HB := n1_; clear n0_ n1_; (try clear hb); (try clear hb2); (try clear hk); (try clear hi); (try clear ho0)) | ((with_reducible refine gate_callee (f := 19) rfl ?_); refine goesL_ (some 13) rfl rfl Try.func19 (by kernel_rfl) rfl #[.string (⟨#[116, 105, 99, 107, 32, 45, 48, 59]⟩ : ByteArray)] rfl (by (try simp only [List.map_toArray, List.map_cons, List.map_nil]); first | done | rfl | (simp only [List.length_drop, List.length_take]; rfl)) ?_; (with_reducible refine (say_Script.calls k (⟨#[116, 105, 99, 107, 32, 45, 48, 59]⟩ : ByteArray) t229 t230 t231 _ A2.out).mono ?_); rintro e w16 ⟨v232, rfl, ho0, hb⟩; refine ⟨_, rfl, ?_⟩; have n0_ := Aside0.mk (Kd.S_elder' (by (with_reducible repeat (first | apply Kd.S_alloc | apply Kd.S_drewN | apply Kd.S_drew)); exact HO228.out) (Kd.S_base ho0) hb); have n1_ := Aside0.mk (Kd.S_lower (Kd.S_new' ho0 (Kd.S_lt (by (with_reducible repeat (first | apply Kd.S_alloc | apply Kd.S_drewN | apply Kd.S_drew)); exact HO228.out))) (below_size (by repeat (first | (with_reducible first | exact HB.out | apply below_alloc | apply pw_below_drewN | apply below_drew1) | exact HB.out)))); have n2_ := Aside0.mk (below_step (by repeat (first | (with_reducible first | exact HB.out | apply below_alloc | apply pw_below_drewN | apply below_drew1) | exact HB.out)) hb); clear HO228; clear HB; have HO228 := n0_; have HO233 := n1_; have HB := n2_; clear n0_ n1_ n2_; (try clear hb); (try clear hb2); (try clear hk); (try clear hi); (try clear ho0); obtain ⟨Ao17, co17, eo17⟩ := Kd.S_slice HO228.out; subst eo17; have p234 : 0 ≤ (0 : Int) := (by omega); have q234 : 0 < (t224.length : Int) := of_decide_eq_true (by first | (with_reducible assumption) | assumption); obtain ⟨ad234, A234_3, c234_3, A234_6, c234_6, e234, hx234_0, hx234_1, hx234_2, hx234_3, hx234_4, hx234_5, hx234_6, hx234_7, hx234_8, hx234_9, hx234_10, hx234_11, hl234_3, hi234_3, hl234_6, hi234_6⟩ := at_T45 (Kd.S_reads' HO228.out).2.2 0 p234 q234; cases e234; obtain ⟨ce234, hce234, hMe234, hcc234⟩ := Kd.S_get HO228.out z45 0 p234 (by first | exact q234 | exact of_decide_eq_true (by first | (with_reducible assumption) | assumption) | (have e_ := (Kd.S_reads' HO228.out).1; omega)); obtain ⟨ve234_3, ve234_6, rfl, ge234_3, ge234_6⟩ := k45_openM hMe234; have hv234_3 := hcc234 3 _ rfl; rw [add_field _ _ 3 (by omega)] at hv234_3; replace hv234_3 := Option.some.inj (hv234_3.symm.trans hx234_3); rw [hv234_3] at ge234_3; have HL234_3 := Aside0.mk (show Kd.R k87 87 _ _ _ _ ((rd_T45 t224 0).f1.f2) from ge234_3); clear hv234_3 ge234_3; have hv234_6 := hcc234 6 _ rfl; rw [add_field _ _ 6 (by omega)] at hv234_6; replace hv234_6 := Option.some.inj (hv234_6.symm.trans hx234_6); rw [hv234_6] at ge234_6; have HL234_6 := Aside0.mk (show Kd.R Kd.string 9 _ _ _ _ ((rd_T45 t224 0).f4) from ge234_6); clear hv234_6 ge234_6; clear hcc234 hce234; have qi234 : (0 < t224.length) = True := eq_true (by omega); (try rw [show ((0 : Int)).toNat = 0 from rfl] at hx234_0); (try rw [show 0 * 12 = 0 from rfl] at hx234_0); (try rw [Addr.add_zero'] at hx234_0); (try rw [show ((0 : Int)).toNat = 0 from rfl] at hx234_1); (try rw [show 0 * 12 = 0 from rfl] at hx234_1); (try rw [Addr.add_zero'] at hx234_1); (try rw [show ((0 : Int)).toNat = 0 from rfl] at hx234_2); (try rw [show 0 * 12 = 0 from rfl] at hx234_2); (try rw [Addr.add_zero'] at hx234_2); (try rw [show ((0 : Int)).toNat = 0 from rfl] at hx234_3); (try rw [show 0 * 12 = 0 from rfl] at hx234_3); (try rw [Addr.add_zero'] at hx234_3); (try rw [show ((0 : Int)).toNat = 0 from rfl] at hx234_4); (try rw [show 0 * 12 = 0 from rfl] at hx234_4); (try rw [Addr.add_zero'] at hx234_4); (try rw [show ((0 : Int)).toNat = 0 from rfl] at hx234_5); (try rw [show 0 * 12 = 0 from rfl] at hx234_5); (try rw [Addr.add_zero'] at hx234_5); (try rw [show ((0 : Int)).toNat = 0 from rfl] at hx234_6); (try rw [show 0 * 12 = 0 from rfl] at hx234_6); (try rw [Addr.add_zero'] at hx234_6); (try rw [show ((0 : Int)).toNat = 0 from rfl] at hx234_7); (try rw [show 0 * 12 = 0 from rfl] at hx234_7); (try rw [Addr.add_zero'] at hx234_7); (try rw [show ((0 : Int)).toNat = 0 from rfl] at hx234_8); (try rw [show 0 * 12 = 0 from rfl] at hx234_8); (try rw [Addr.add_zero'] at hx234_8); (try rw [show ((0 : Int)).toNat = 0 from rfl] at hx234_9); (try rw [show 0 * 12 = 0 from rfl] at hx234_9); (try rw [Addr.add_zero'] at hx234_9); (try rw [show ((0 : Int)).toNat = 0 from rfl] at hx234_10); (try rw [show 0 * 12 = 0 from rfl] at hx234_10); (try rw [Addr.add_zero'] at hx234_10); (try rw [show ((0 : Int)).toNat = 0 from rfl] at hx234_11); (try rw [show 0 * 12 = 0 from rfl] at hx234_11); (try rw [Addr.add_zero'] at hx234_11); have HR234_3 := Aside0.mk hi234_3; have HC234_3 := Aside0.mk hl234_3; clear hi234_3 hl234_3; have HR234_6 := Aside0.mk hi234_6; have HC234_6 := Aside0.mk hl234_6; clear hi234_6 hl234_6; replace p234 := eq_true p234; replace q234 := eq_true q234; have p235 : 0 ≤ (0 : Int) := (by omega); have q235 : 0 < (t224.length : Int) := of_decide_eq_true (by first | (with_reducible assumption) | assumption); obtain ⟨ad235, A235_3, c235_3, A235_6, c235_6, e235, hx235_0, hx235_1, hx235_2, hx235_3, hx235_4, hx235_5, hx235_6, hx235_7, hx235_8, hx235_9, hx235_10, hx235_11, hl235_3, hi235_3, hl235_6, hi235_6⟩ := at_T45 (Kd.S_reads' HO228.out).2.2 0 p235 q235; obtain rfl : ad234 = ad235 := (by injection e235); obtain ⟨ce235, hce235, hMe235, hcc235⟩ := Kd.S_get HO228.out z45 0 p235 (by first | exact q235 | exact of_decide_eq_true (by first | (with_reducible assumption) | assumption) | (have e_ := (Kd.S_reads' HO228.out).1; omega)); obtain ⟨ve235_3, ve235_6, rfl, ge235_3, ge235_6⟩ := k45_openM hMe235; have hv235_3 := hcc235 3 _ rfl; rw [add_field _ _ 3 (by omega)] at hv235_3; replace hv235_3 := Option.some.inj (hv235_3.symm.trans hx235_3); rw [hv235_3] at ge235_3; have HL235_3 := Aside0.mk (show Kd.R k87 87 _ _ _ _ ((rd_T45 t224 0).f1.f2) from ge235_3); clear hv235_3 ge235_3; have hv235_6 := hcc235 6 _ rfl; rw [add_field _ _ 6 (by omega)] at hv235_6; replace hv235_6 := Option.some.inj (hv235_6.symm.trans hx235_6); rw [hv235_6] at ge235_6; have HL235_6 := Aside0.mk (show Kd.R Kd.string 9 _ _ _ _ ((rd_T45 t224 0).f4) from ge235_6); clear hv235_6 ge235_6; clear hcc235 hce235; have qi235 : (0 < t224.length) = True := eq_true (by omega); (try rw [show ((0 : Int)).toNat = 0 from rfl] at hx235_0); (try rw [show 0 * 12 = 0 from rfl] at hx235_0); (try rw [Addr.add_zero'] at hx235_0); (try rw [show ((0 : Int)).toNat = 0 from rfl] at hx235_1); (try rw [show 0 * 12 = 0 from rfl] at hx235_1); (try rw [Addr.add_zero'] at hx235_1); (try rw [show ((0 : Int)).toNat = 0 from rfl] at hx235_2); (try rw [show 0 * 12 = 0 from rfl] at hx235_2); (try rw [Addr.add_zero'] at hx235_2); (try rw [show ((0 : Int)).toNat = 0 from rfl] at hx235_3); (try rw [show 0 * 12 = 0 from rfl] at hx235_3); (try rw [Addr.add_zero'] at hx235_3); (try rw [show ((0 : Int)).toNat = 0 from rfl] at hx235_4); (try rw [show 0 * 12 = 0 from rfl] at hx235_4); (try rw [Addr.add_zero'] at hx235_4); (try rw [show ((0 : Int)).toNat = 0 from rfl] at hx235_5); (try rw [show 0 * 12 = 0 from rfl] at hx235_5); (try rw [Addr.add_zero'] at hx235_5); (try rw [show ((0 : Int)).toNat = 0 from rfl] at hx235_6); (try rw [show 0 * 12 = 0 from rfl] at hx235_6); (try rw [Addr.add_zero'] at hx235_6); (try rw [show ((0 : Int)).toNat = 0 from rfl] at hx235_7); (try rw [show 0 * 12 = 0 from rfl] at hx235_7); (try rw [Addr.add_zero'] at hx235_7); (try rw [show ((0 : Int)).toNat = 0 from rfl] at hx235_8); (try rw [show 0 * 12 = 0 from rfl] at hx235_8); (try rw [Addr.add_zero'] at hx235_8); (try rw [show ((0 : Int)).toNat = 0 from rfl] at hx235_9); (try rw [show 0 * 12 = 0 from rfl] at hx235_9); (try rw [Addr.add_zero'] at hx235_9); (try rw [show ((0 : Int)).toNat = 0 from rfl] at hx235_10); (try rw [show 0 * 12 = 0 from rfl] at hx235_10); (try rw [Addr.add_zero'] at hx235_10); (try rw [show ((0 : Int)).toNat = 0 from rfl] at hx235_11); (try rw [show 0 * 12 = 0 from rfl] at hx235_11); (try rw [Addr.add_zero'] at hx235_11); have HR235_3 := Aside0.mk hi235_3; have HC235_3 := Aside0.mk hl235_3; clear hi235_3 hl235_3; have HR235_6 := Aside0.mk hi235_6; have HC235_6 := Aside0.mk hl235_6; clear hi235_6 hl235_6; replace p235 := eq_true p235; replace q235 := eq_true q235; have ea_ := Option.some.inj (hx234_3.symm.trans hx235_3); injection ea_ with ea_ en_ ec_; subst ea_; subst ec_; clear en_; have ea_ := Option.some.inj (hx234_6.symm.trans hx235_6); injection ea_ with ea_ en_ ec_; subst ea_; subst ec_; clear en_))
            go_ret
            exact ⟨by first | rfl | (simp [errW_none, errW_some] <;> rfl) | (simp [*, errW_none, errW_some] <;> rfl), by repeat (first | (with_reducible first | exact HB.out | apply below_alloc | apply pw_below_drewN | apply below_drew1) | exact HB.out)⟩
        · rw [if_neg c6] at H
          have c6b0 : (((rd_T45 t224 0).f0) == 8) = false := beq_eq_false_iff_ne.mpr c6
          have c6b1 : (((rd_T45 t224 0).f0) != 8) = true := bne_iff_ne.mpr c6
          obtain rfl := Option.some.inj H
          go_enter Try.func12, Try.ntmps12
          go_wp2_with (first | ((with_reducible refine gate_callee (f := 19) rfl ?_); refine goesL_ (some 8) rfl rfl Try.func19 (by kernel_rfl) rfl #[.string (⟨#[116, 105, 99, 107, 32, 53, 59]⟩ : ByteArray)] rfl (by (try simp only [List.map_toArray, List.map_cons, List.map_nil]); first | done | rfl | (simp only [List.length_drop, List.length_take]; rfl)) ?_; (with_reducible refine (say_Script.calls k (⟨#[116, 105, 99, 107, 32, 53, 59]⟩ : ByteArray) t224 t225 t226 _ A1.out).mono ?_); rintro e w18 ⟨v227, rfl, ho0, hb⟩; refine ⟨_, rfl, ?_⟩; have n0_ := Aside0.mk (Kd.S_lower ho0 (below_size (by repeat (first | (with_reducible first | exact HB.out | apply below_alloc | apply pw_below_drewN | apply below_drew1) | exact HB.out)))); have n1_ := Aside0.mk (below_step (by repeat (first | (with_reducible first | exact HB.out | apply below_alloc | apply pw_below_drewN | apply below_drew1) | exact HB.out)) hb); clear HB; have HO228 := n0_; have HB := n1_; clear n0_ n1_; (try clear hb); (try clear hb2); (try clear hk); (try clear hi); (try clear ho0)) | ((with_reducible refine gate_callee (f := 19) rfl ?_); refine goesL_ (some 13) rfl rfl Try.func19 (by kernel_rfl) rfl #[.string (⟨#[116, 105, 99, 107, 32, 45, 48, 59]⟩ : ByteArray)] rfl (by (try simp only [List.map_toArray, List.map_cons, List.map_nil]); first | done | rfl | (simp only [List.length_drop, List.length_take]; rfl)) ?_; (with_reducible refine (say_Script.calls k (⟨#[116, 105, 99, 107, 32, 45, 48, 59]⟩ : ByteArray) t229 t230 t231 _ A2.out).mono ?_); rintro e w19 ⟨v232, rfl, ho0, hb⟩; refine ⟨_, rfl, ?_⟩; have n0_ := Aside0.mk (Kd.S_elder' (by (with_reducible repeat (first | apply Kd.S_alloc | apply Kd.S_drewN | apply Kd.S_drew)); exact HO228.out) (Kd.S_base ho0) hb); have n1_ := Aside0.mk (Kd.S_lower (Kd.S_new' ho0 (Kd.S_lt (by (with_reducible repeat (first | apply Kd.S_alloc | apply Kd.S_drewN | apply Kd.S_drew)); exact HO228.out))) (below_size (by repeat (first | (with_reducible first | exact HB.out | apply below_alloc | apply pw_below_drewN | apply below_drew1) | exact HB.out)))); have n2_ := Aside0.mk (below_step (by repeat (first | (with_reducible first | exact HB.out | apply below_alloc | apply pw_below_drewN | apply below_drew1) | exact HB.out)) hb); clear HO228; clear HB; have HO228 := n0_; have HO233 := n1_; have HB := n2_; clear n0_ n1_ n2_; (try clear hb); (try clear hb2); (try clear hk); (try clear hi); (try clear ho0); obtain ⟨Ao20, co20, eo20⟩ := Kd.S_slice HO228.out; subst eo20; have p234 : 0 ≤ (0 : Int) := (by omega); have q234 : 0 < (t224.length : Int) := of_decide_eq_true (by first | (with_reducible assumption) | assumption); obtain ⟨ad234, A234_3, c234_3, A234_6, c234_6, e234, hx234_0, hx234_1, hx234_2, hx234_3, hx234_4, hx234_5, hx234_6, hx234_7, hx234_8, hx234_9, hx234_10, hx234_11, hl234_3, hi234_3, hl234_6, hi234_6⟩ := at_T45 (Kd.S_reads' HO228.out).2.2 0 p234 q234; cases e234; obtain ⟨ce234, hce234, hMe234, hcc234⟩ := Kd.S_get HO228.out z45 0 p234 (by first | exact q234 | exact of_decide_eq_true (by first | (with_reducible assumption) | assumption) | (have e_ := (Kd.S_reads' HO228.out).1; omega)); obtain ⟨ve234_3, ve234_6, rfl, ge234_3, ge234_6⟩ := k45_openM hMe234; have hv234_3 := hcc234 3 _ rfl; rw [add_field _ _ 3 (by omega)] at hv234_3; replace hv234_3 := Option.some.inj (hv234_3.symm.trans hx234_3); rw [hv234_3] at ge234_3; have HL234_3 := Aside0.mk (show Kd.R k87 87 _ _ _ _ ((rd_T45 t224 0).f1.f2) from ge234_3); clear hv234_3 ge234_3; have hv234_6 := hcc234 6 _ rfl; rw [add_field _ _ 6 (by omega)] at hv234_6; replace hv234_6 := Option.some.inj (hv234_6.symm.trans hx234_6); rw [hv234_6] at ge234_6; have HL234_6 := Aside0.mk (show Kd.R Kd.string 9 _ _ _ _ ((rd_T45 t224 0).f4) from ge234_6); clear hv234_6 ge234_6; clear hcc234 hce234; have qi234 : (0 < t224.length) = True := eq_true (by omega); (try rw [show ((0 : Int)).toNat = 0 from rfl] at hx234_0); (try rw [show 0 * 12 = 0 from rfl] at hx234_0); (try rw [Addr.add_zero'] at hx234_0); (try rw [show ((0 : Int)).toNat = 0 from rfl] at hx234_1); (try rw [show 0 * 12 = 0 from rfl] at hx234_1); (try rw [Addr.add_zero'] at hx234_1); (try rw [show ((0 : Int)).toNat = 0 from rfl] at hx234_2); (try rw [show 0 * 12 = 0 from rfl] at hx234_2); (try rw [Addr.add_zero'] at hx234_2); (try rw [show ((0 : Int)).toNat = 0 from rfl] at hx234_3); (try rw [show 0 * 12 = 0 from rfl] at hx234_3); (try rw [Addr.add_zero'] at hx234_3); (try rw [show ((0 : Int)).toNat = 0 from rfl] at hx234_4); (try rw [show 0 * 12 = 0 from rfl] at hx234_4); (try rw [Addr.add_zero'] at hx234_4); (try rw [show ((0 : Int)).toNat = 0 from rfl] at hx234_5); (try rw [show 0 * 12 = 0 from rfl] at hx234_5); (try rw [Addr.add_zero'] at hx234_5); (try rw [show ((0 : Int)).toNat = 0 from rfl] at hx234_6); (try rw [show 0 * 12 = 0 from rfl] at hx234_6); (try rw [Addr.add_zero'] at hx234_6); (try rw [show ((0 : Int)).toNat = 0 from rfl] at hx234_7); (try rw [show 0 * 12 = 0 from rfl] at hx234_7); (try rw [Addr.add_zero'] at hx234_7); (try rw [show ((0 : Int)).toNat = 0 from rfl] at hx234_8); (try rw [show 0 * 12 = 0 from rfl] at hx234_8); (try rw [Addr.add_zero'] at hx234_8); (try rw [show ((0 : Int)).toNat = 0 from rfl] at hx234_9); (try rw [show 0 * 12 = 0 from rfl] at hx234_9); (try rw [Addr.add_zero'] at hx234_9); (try rw [show ((0 : Int)).toNat = 0 from rfl] at hx234_10); (try rw [show 0 * 12 = 0 from rfl] at hx234_10); (try rw [Addr.add_zero'] at hx234_10); (try rw [show ((0 : Int)).toNat = 0 from rfl] at hx234_11); (try rw [show 0 * 12 = 0 from rfl] at hx234_11); (try rw [Addr.add_zero'] at hx234_11); have HR234_3 := Aside0.mk hi234_3; have HC234_3 := Aside0.mk hl234_3; clear hi234_3 hl234_3; have HR234_6 := Aside0.mk hi234_6; have HC234_6 := Aside0.mk hl234_6; clear hi234_6 hl234_6; replace p234 := eq_true p234; replace q234 := eq_true q234))
          go_ret
          exact ⟨by first | rfl | (simp [errW_none, errW_some] <;> rfl) | (simp [*, errW_none, errW_some] <;> rfl), by repeat (first | (with_reducible first | exact HB.out | apply below_alloc | apply pw_below_drewN | apply below_drew1) | exact HB.out)⟩
      · rw [if_neg c5] at H
        exact absurd H (by simp)
    · rw [if_neg c4] at H
      have c4b0 : ((t224.length : Int) == 1) = false := beq_eq_false_iff_ne.mpr c4
      have c4b1 : ((t224.length : Int) != 1) = true := bne_iff_ne.mpr c4
      obtain rfl := Option.some.inj H
      go_enter Try.func12, Try.ntmps12
      go_wp2_with (first | ((with_reducible refine gate_callee (f := 19) rfl ?_); refine goesL_ (some 8) rfl rfl Try.func19 (by kernel_rfl) rfl #[.string (⟨#[116, 105, 99, 107, 32, 53, 59]⟩ : ByteArray)] rfl (by (try simp only [List.map_toArray, List.map_cons, List.map_nil]); first | done | rfl | (simp only [List.length_drop, List.length_take]; rfl)) ?_; (with_reducible refine (say_Script.calls k (⟨#[116, 105, 99, 107, 32, 53, 59]⟩ : ByteArray) t224 t225 t226 _ A1.out).mono ?_); rintro e w21 ⟨v227, rfl, ho0, hb⟩; refine ⟨_, rfl, ?_⟩; have n0_ := Aside0.mk (Kd.S_lower ho0 (below_size (by repeat (first | (with_reducible first | exact HB.out | apply below_alloc | apply pw_below_drewN | apply below_drew1) | exact HB.out)))); have n1_ := Aside0.mk (below_step (by repeat (first | (with_reducible first | exact HB.out | apply below_alloc | apply pw_below_drewN | apply below_drew1) | exact HB.out)) hb); clear HB; have HO228 := n0_; have HB := n1_; clear n0_ n1_; (try clear hb); (try clear hb2); (try clear hk); (try clear hi); (try clear ho0)) | ((with_reducible refine gate_callee (f := 19) rfl ?_); refine goesL_ (some 13) rfl rfl Try.func19 (by kernel_rfl) rfl #[.string (⟨#[116, 105, 99, 107, 32, 45, 48, 59]⟩ : ByteArray)] rfl (by (try simp only [List.map_toArray, List.map_cons, List.map_nil]); first | done | rfl | (simp only [List.length_drop, List.length_take]; rfl)) ?_; (with_reducible refine (say_Script.calls k (⟨#[116, 105, 99, 107, 32, 45, 48, 59]⟩ : ByteArray) t229 t230 t231 _ A2.out).mono ?_); rintro e w22 ⟨v232, rfl, ho0, hb⟩; refine ⟨_, rfl, ?_⟩; have n0_ := Aside0.mk (Kd.S_elder' (by (with_reducible repeat (first | apply Kd.S_alloc | apply Kd.S_drewN | apply Kd.S_drew)); exact HO228.out) (Kd.S_base ho0) hb); have n1_ := Aside0.mk (Kd.S_lower (Kd.S_new' ho0 (Kd.S_lt (by (with_reducible repeat (first | apply Kd.S_alloc | apply Kd.S_drewN | apply Kd.S_drew)); exact HO228.out))) (below_size (by repeat (first | (with_reducible first | exact HB.out | apply below_alloc | apply pw_below_drewN | apply below_drew1) | exact HB.out)))); have n2_ := Aside0.mk (below_step (by repeat (first | (with_reducible first | exact HB.out | apply below_alloc | apply pw_below_drewN | apply below_drew1) | exact HB.out)) hb); clear HO228; clear HB; have HO228 := n0_; have HO233 := n1_; have HB := n2_; clear n0_ n1_ n2_; (try clear hb); (try clear hb2); (try clear hk); (try clear hi); (try clear ho0); obtain ⟨Ao23, co23, eo23⟩ := Kd.S_slice HO228.out; subst eo23))
      go_ret
      exact ⟨by first | rfl | (simp [errW_none, errW_some] <;> rfl) | (simp [*, errW_none, errW_some] <;> rfl), by repeat (first | (with_reducible first | exact HB.out | apply below_alloc | apply pw_below_drewN | apply below_drew1) | exact HB.out)⟩
  · rw [if_neg c3] at H
    have c3b0 : (t226 == 0) = false := beq_eq_false_iff_ne.mpr c3
    have c3b1 : (t226 != 0) = true := bne_iff_ne.mpr c3
    obtain rfl := Option.some.inj H
    go_enter Try.func12, Try.ntmps12
    go_wp2_with (first | ((with_reducible refine gate_callee (f := 19) rfl ?_); refine goesL_ (some 8) rfl rfl Try.func19 (by kernel_rfl) rfl #[.string (⟨#[116, 105, 99, 107, 32, 53, 59]⟩ : ByteArray)] rfl (by (try simp only [List.map_toArray, List.map_cons, List.map_nil]); first | done | rfl | (simp only [List.length_drop, List.length_take]; rfl)) ?_; (with_reducible refine (say_Script.calls k (⟨#[116, 105, 99, 107, 32, 53, 59]⟩ : ByteArray) t224 t225 t226 _ A1.out).mono ?_); rintro e w24 ⟨v227, rfl, ho0, hb⟩; refine ⟨_, rfl, ?_⟩; have n0_ := Aside0.mk (Kd.S_lower ho0 (below_size (by repeat (first | (with_reducible first | exact HB.out | apply below_alloc | apply pw_below_drewN | apply below_drew1) | exact HB.out)))); have n1_ := Aside0.mk (below_step (by repeat (first | (with_reducible first | exact HB.out | apply below_alloc | apply pw_below_drewN | apply below_drew1) | exact HB.out)) hb); clear HB; have HO228 := n0_; have HB := n1_; clear n0_ n1_; (try clear hb); (try clear hb2); (try clear hk); (try clear hi); (try clear ho0)) | ((with_reducible refine gate_callee (f := 19) rfl ?_); refine goesL_ (some 13) rfl rfl Try.func19 (by kernel_rfl) rfl #[.string (⟨#[116, 105, 99, 107, 32, 45, 48, 59]⟩ : ByteArray)] rfl (by (try simp only [List.map_toArray, List.map_cons, List.map_nil]); first | done | rfl | (simp only [List.length_drop, List.length_take]; rfl)) ?_; (with_reducible refine (say_Script.calls k (⟨#[116, 105, 99, 107, 32, 45, 48, 59]⟩ : ByteArray) t229 t230 t231 _ A2.out).mono ?_); rintro e w25 ⟨v232, rfl, ho0, hb⟩; refine ⟨_, rfl, ?_⟩; have n0_ := Aside0.mk (Kd.S_elder' (by (with_reducible repeat (first | apply Kd.S_alloc | apply Kd.S_drewN | apply Kd.S_drew)); exact HO228.out) (Kd.S_base ho0) hb); have n1_ := Aside0.mk (Kd.S_lower (Kd.S_new' ho0 (Kd.S_lt (by (with_reducible repeat (first | apply Kd.S_alloc | apply Kd.S_drewN | apply Kd.S_drew)); exact HO228.out))) (below_size (by repeat (first | (with_reducible first | exact HB.out | apply below_alloc | apply pw_below_drewN | apply below_drew1) | exact HB.out)))); have n2_ := Aside0.mk (below_step (by repeat (first | (with_reducible first | exact HB.out | apply below_alloc | apply pw_below_drewN | apply below_drew1) | exact HB.out)) hb); clear HO228; clear HB; have HO228 := n0_; have HO233 := n1_; have HB := n2_; clear n0_ n1_ n2_; (try clear hb); (try clear hb2); (try clear hk); (try clear hi); (try clear ho0)))
    go_ret
    exact ⟨by first | rfl | (simp [errW_none, errW_some] <;> rfl) | (simp [*, errW_none, errW_some] <;> rfl), by repeat (first | (with_reducible first | exact HB.out | apply below_alloc | apply pw_below_drewN | apply below_drew1) | exact HB.out)⟩

end Go.Proofs.Ytokkjnfdfbpphaa.A
namespace Go.Proofs.Ytokkjnfdfbpphaa.A
open Go.RowKit Go.Proofs.YtokkjnfdfbpphaaW.PrintWords Go.Proofs.YtokkjnfdfbpphaaW.PrintLast Go.Proofs.YtokkjnfdfbpphaaW.PrintMore
attribute [local go_sem] max2_int min2_int max_two min_two max_three min_three max_four min_four   -- for this text's walks alone
set_option linter.unusedVariables false
set_option linter.unusedSimpArgs false

set_option maxRecDepth 100000 in
theorem awake_true : chartularylaw23_awake.f 40 = some true := by kernel_rfl

end Go.Proofs.Ytokkjnfdfbpphaa.A
namespace Go.Proofs.Ytokkjnfdfbpphaa.A
open Go.RowKit Go.Proofs.YtokkjnfdfbpphaaW.PrintWords Go.Proofs.YtokkjnfdfbpphaaW.PrintLast Go.Proofs.YtokkjnfdfbpphaaW.PrintMore
attribute [local go_sem] max2_int min2_int max_two min_two max_three min_three max_four min_four   -- for this text's walks alone
set_option linter.unusedVariables false
set_option linter.unusedSimpArgs false

/-! the lexer over lists -/
/-- A list's first token: its kind, its text, how many bytes it takes. -/
def tokL : List UInt8 → Option (Int × List UInt8 × Nat)
  | [] => none
  | c :: t =>
    if isLetter c then some (0, (c :: t).takeWhile isWord, ((c :: t).takeWhile isWord).length)
    else if isDigit c || c == 45 then
      if c == 45 && (t.takeWhile isDigit).isEmpty then none else some (1, c :: t.takeWhile isDigit, (t.takeWhile isDigit).length + 1)
    else if c == 34 then (unq t).map fun p => (2, p.1, p.2 + 1)
    else if isMark c then some (3, [c], 1) else none
theorem tokAt_list (s : ByteArray) (j : Nat) : tokAt s j = (tokL (s.data.toList.drop j)).map fun p => (p.1, p.2.1, j + p.2.2) := by
  unfold tokAt tokL
  cases hl : s.data.toList.drop j with
  | nil => rfl
  | cons c t =>
    have ht : s.data.toList.drop (j + 1) = t := by rw [← List.drop_drop, hl]; rfl
    dsimp only
    split
    · simp [runTo, hl]
    · split
      · split
        · rfl
        · simp [runTo, ht]; omega
      · split
        · unfold unqAt; rw [ht]; cases unq t with
          | none => rfl
          | some p => simp; omega
        · split <;> rfl
def lexL : Nat → List UInt8 → Nat → Except Nat (List S28)
  | 0, _, _ => .ok []
  | n + 1, l, p =>
    if l.drop (blankLen false l) = [] then .ok []
    else match tokL (l.drop (blankLen false l)) with
      | none => .error (p + blankLen false l)
      | some (k, t, m) => (lexL n (l.drop (blankLen false l + m)) (p + blankLen false l + m)).map fun r => (⟨k, ⟨t.toArray⟩, ((p + blankLen false l : Nat) : Int)⟩ : S28) :: r
theorem lexAll_list : ∀ (n : Nat) (s : ByteArray) (i : Nat), i ≤ s.size → lexAll n s i = lexL n (s.data.toList.drop i) i
  | 0, _, _, _ => rfl
  | n + 1, s, i, hi => by
    have hb := blankLen_le (s.data.toList.drop i) false
    have hsz : s.data.toList.length = s.size := by simp
    rw [List.length_drop, hsz] at hb
    unfold lexAll lexL
    have e : (blanksTo s i = s.size) = ((s.data.toList.drop i).drop (blankLen false (s.data.toList.drop i)) = []) := by
      rw [List.drop_eq_nil_iff, List.length_drop, hsz]; unfold blanksTo; apply propext; omega
    simp only [e]
    split
    · rfl
    · rw [tokAt_list]
      have e2 : s.data.toList.drop (blanksTo s i) = (s.data.toList.drop i).drop (blankLen false (s.data.toList.drop i)) := by rw [List.drop_drop]; rfl
      rw [e2]
      cases ht : tokL ((s.data.toList.drop i).drop (blankLen false (s.data.toList.drop i))) with
      | none => rfl
      | some q =>
        obtain ⟨k, t, m⟩ := q
        dsimp only [Option.map_some]
        have hle := tokAt_le s (blanksTo s i) k t (blanksTo s i + m) (by unfold blanksTo; rename_i hne; rw [List.drop_eq_nil_iff, List.length_drop, hsz] at hne; omega) (by rw [tokAt_list, e2, ht]; rfl)
        rw [lexAll_list n s _ hle.2]
        rw [show s.data.toList.drop (blanksTo s i + m) = (s.data.toList.drop i).drop (blankLen false (s.data.toList.drop i) + m) from by rw [List.drop_drop]; congr 1; unfold blanksTo; omega]
        rfl
theorem lexed_list (s : ByteArray) : lexed s = lexL (s.size + 1) s.data.toList 0 := lexAll_list _ s 0 (Nat.zero_le _)
/-! a quote is read again -/
theorem hex_nibble (n : Fin 16) : hexVal (hexDigit n.1) = n.1 := by revert n; decide +kernel
theorem escape_quote (c : UInt8) : escapeVal [hexDigit (c.toNat / 16), hexDigit (c.toNat % 16)] = some c := by
  have hc := c.toNat_lt
  have h1 := hex_nibble ⟨c.toNat / 16, by omega⟩
  have h2 := hex_nibble ⟨c.toNat % 16, by omega⟩
  unfold escapeVal
  simp only [h1, h2]
  rw [if_pos ⟨by omega, by omega⟩]
  congr 1
  apply UInt8.toNat_inj.1
  simp
  omega
theorem unq_quote (l r : List UInt8) : unq (quoteBody l ++ 34 :: r) = some (l, (quoteBody l).length + 1) := by
  induction l with
  | nil => rw [show quoteBody [] = [] from rfl, List.nil_append, unq_cons]; simp
  | cons c t ih =>
    rw [show quoteBody (c :: t) = quoteByte c ++ quoteBody t from rfl, List.append_assoc]
    unfold quoteByte
    cases hp : isPlain c with
    | true =>
      have h1 : ¬ (c == 34) = true := by intro h; simp [isPlain] at hp h; simp [h] at hp
      have h2 : ¬ (c == 92) = true := by intro h; simp [isPlain] at hp h; simp [h] at hp
      simp only [if_true, List.singleton_append]
      rw [unq_cons, if_neg h1, if_neg h2, hp, if_pos rfl, ih]
      simp
    | false =>
      simp only [Bool.false_eq_true, if_false, List.cons_append, List.nil_append]
      rw [unq_cons, if_neg (by decide), if_pos (by decide)]
      dsimp only
      rw [if_pos (by decide), escape_quote]
      dsimp only
      rw [hp, ih]
      simp
theorem tok_quote (l r : List UInt8) : tokL (quoted l ++ r) = some (2, l, (quoted l).length) := by
  unfold quoted tokL
  rw [List.cons_append, List.append_assoc]
  simp only [List.cons_append, List.nil_append]
  rw [if_neg (by decide), if_neg (by decide), if_pos (by decide), unq_quote]
  simp
theorem quoted_le (l : List UInt8) : (quoted l).length ≤ 4 * l.length + 2 := by
  have := quoteBody_le l; unfold quoted; simp; omega

end Go.Proofs.Ytokkjnfdfbpphaa.A
namespace Go.Proofs.Ytokkjnfdfbpphaa.A
open Go.RowKit Go.Proofs.YtokkjnfdfbpphaaW.PrintWords Go.Proofs.YtokkjnfdfbpphaaW.PrintLast Go.Proofs.YtokkjnfdfbpphaaW.PrintMore
attribute [local go_sem] max2_int min2_int max_two min_two max_three min_three max_four min_four   -- for this text's walks alone
set_option linter.unusedVariables false
set_option linter.unusedSimpArgs false

/-! ### chartularylaw23_cut: function 8 -/
def chartularylaw23_cut.f (a0 : ByteArray) : Option (ByteArray) := if (a0.size : Int) > 500 then (if 0 ≤ 500 then (if 500 ≤ (a0.size : Int) then (some (a0.extract 0 500)) else (none)) else (none)) else (some a0)
set_option maxHeartbeats 8000000 in
set_option maxRecDepth 100000 in
theorem chartularylaw23_cut.calls (a0 : ByteArray) (r : ByteArray) (w : World) (h : chartularylaw23_cut.f a0 = some r) :
    Calls Try.prog 8 #[.string a0] w fun e w' => e = .returned (.string r) ∧ Drawn0 w w' := by
  have H : (if (a0.size : Int) > 500 then (if 0 ≤ 500 then (if 500 ≤ (a0.size : Int) then (some (a0.extract 0 500)) else (none)) else (none)) else (some a0)) = some r := h
  clear h
  by_cases c2 : (a0.size : Int) > 500
  · rw [if_pos c2] at H
    have c2b0 : decide (500 < (a0.size : Int)) = true := decide_eq_true c2
    have c2b1 : decide (500 < a0.size) = true := decide_eq_true (by omega)
    clear c2
    by_cases c3 : 0 ≤ 500
    · rw [if_pos c3] at H
      have c3b0 := eq_true c3
      have c3b1 : decide (0 ≤ 500) = true := decide_eq_true c3
      clear c3
      by_cases c4 : 500 ≤ (a0.size : Int)
      · rw [if_pos c4] at H
        have c4b0 := eq_true c4
        have c4b1 : decide (500 ≤ (a0.size : Int)) = true := decide_eq_true c4
        clear c4
        obtain rfl := Option.some.inj H
        go_enter Try.func8, Try.ntmps8
        go_wp2
        go_ret
        exact ⟨by first | rfl | (simp; done) | (simp [*]; done), by repeat (first | exact Drawn0.refl _ | apply Drawn0.step)⟩
      · rw [if_neg c4] at H
        exact absurd H (by simp)
    · rw [if_neg c3] at H
      exact absurd H (by simp)
  · rw [if_neg c2] at H
    have c2b0 : decide (500 < (a0.size : Int)) = false := decide_eq_false c2
    have c2b1 : decide (500 < a0.size) = false := decide_eq_false (by omega)
    clear c2
    obtain rfl := Option.some.inj H
    go_enter Try.func8, Try.ntmps8
    go_wp2
    go_ret
    exact ⟨by first | rfl | (simp; done) | (simp [*]; done), by repeat (first | exact Drawn0.refl _ | apply Drawn0.step)⟩

end Go.Proofs.Ytokkjnfdfbpphaa.A
namespace Go.Proofs.Ytokkjnfdfbpphaa.A
open Go.RowKit Go.Proofs.YtokkjnfdfbpphaaW.PrintWords Go.Proofs.YtokkjnfdfbpphaaW.PrintLast Go.Proofs.YtokkjnfdfbpphaaW.PrintMore
attribute [local go_sem] max2_int min2_int max_two min_two max_three min_three max_four min_four   -- for this text's walks alone
set_option linter.unusedVariables false
set_option linter.unusedSimpArgs false

/-! ### say_Quoted: function 9 -/
def say_Quoted.f (a0 : ByteArray) : Option (ByteArray) := if a0.size ≤ 4294967296 then some ⟨(quoted a0.data.toList).toArray⟩ else none
set_option maxRecDepth 100000 in
set_option maxHeartbeats 2000000 in
theorem Quoted_calls (s : ByteArray) (w : World) (hs : s.size ≤ 4294967296) :
    Calls Try.prog 9 #[.string s] w fun e w' => e = .returned (.string ⟨(quoted s.data.toList).toArray⟩) ∧ Below w.heap.size w w' := by
  go_enter Try.func9, Try.ntmps9
  go_wp2_with (go_at_call 25; refine (bld_byte w.heap.size w.heap.size [] 34 _ (bld_new w) (by simp) (by simp)).mono ?_)
  rintro e w1 ⟨rfl, hb, hw⟩
  have HB := Aside0.mk hb
  have HW := Aside0.mk (((Below.refl w.heap.size w).alloc (Nat.le_refl _) _).trans hw)
  clear hb hw
  go_wp2_with fail
  go_loopw [9] (fun v wr => ∃ k : Nat, k ≤ s.size ∧ v = .int .i64 (k : Int) ∧ Aside0 (Bld w.heap.size w.heap.size (34 :: quoteBody (s.data.toList.take k)) wr) ∧ Aside0 (Below w.heap.size w wr))
    (fun v _ => s.size - (intOf v).toNat)
  case atStart => exact ⟨0, Nat.zero_le _, rfl, ⟨by simpa [quoteBody] using HB.out⟩, HW⟩
  case round =>
    obtain ⟨k, hk, rfl, hb, hw⟩ := hrel
    have hq := quoteBody_le (s.data.toList.take k)
    have hq2 : (s.data.toList.take k).length ≤ s.size := by simp; have : s.data.size = s.size := rfl; omega
    by_cases hlt : k < s.size
    · have hst := Aside0.mk (take_snoc s k hlt)
      cases hp : isPlain s[k] with
      | true =>
        have hpl := Aside0.mk hp
        go_wp2_with (first | (go_at_call 26; refine (plain_q s[k] _).mono ?_; rintro e w2 ⟨rfl, n, rfl⟩; rw [hp]) | (go_at_call 25; refine (bld_byte w.heap.size w.heap.size _ s[k] _ (bld_drewN hb.out _) (by simp only [List.length_cons]; omega) hw.out.size).mono ?_; rintro e w2 ⟨rfl, hb2, hw2⟩; have HB2 := Aside0.mk hb2; have HW2 := Aside0.mk hw2; clear hb2 hw2))
        go_roundw
        case rel => exact ⟨k + 1, by omega, by go_num, ⟨by rw [hst.out, quoteBody_snoc]; simpa [quoteByte, hpl.out] using HB2.out⟩, ⟨(bel_drewN hw.out _).trans HW2.out⟩⟩
        case measure => simp [intOf]; omega
      | false =>
        have hpl := Aside0.mk hp
        have hc := s[k].toNat_lt
        have hx1 : (0 : Int) ≤ (s[k].toNat : Int) / 16 := by omega
        have hx2 : (s[k].toNat : Int) / 16 < 16 := by omega
        have hx3 : (0 : Int) ≤ (s[k].toNat : Int) % 16 := by omega
        have hx4 : (s[k].toNat : Int) % 16 < 16 := by omega
        go_wp2_with (first | (go_at_call 26; refine (plain_q s[k] _).mono ?_; rintro e w2 ⟨rfl, n, rfl⟩; rw [hp]) | (go_at_call 27; refine (bld_str w.heap.size w.heap.size _ ⟨#[92, 120]⟩ _ (bld_drewN hb.out _) (by simp only [List.length_cons]; show _ + 2 ≤ _; omega) hw.out.size).mono ?_; rintro e w2 ⟨rfl, hb2, hw2⟩; have HB2 := Aside0.mk hb2; have HW2 := Aside0.mk hw2; clear hb2 hw2))
        refine (bld_byte w.heap.size w.heap.size _ _ _ HB2.out (by simp only [List.length_append, List.length_cons, List.length_nil]; omega) (Nat.le_trans hw.out.size HW2.out.size)).mono ?_
        rintro e w3 ⟨rfl, hb3, hw3⟩
        have HB3 := Aside0.mk hb3
        have HW3 := Aside0.mk (((bel_drewN hw.out _).trans HW2.out).trans hw3)
        clear hb3 hw3
        go_wp2_with fail
        refine (bld_byte w.heap.size w.heap.size _ _ _ HB3.out (by simp only [List.length_append, List.length_cons, List.length_nil]; omega) HW3.out.size).mono ?_
        rintro e w4 ⟨rfl, hb4, hw4⟩
        have HB4 := Aside0.mk hb4
        have HW4 := Aside0.mk (HW3.out.trans hw4)
        clear hb4 hw4
        go_wp2_with fail
        go_roundw
        case rel => exact ⟨k + 1, by omega, by go_num, ⟨by rw [hst.out, quoteBody_snoc]; simpa [quoteByte, hpl.out, hexIdx _ (show s[k].toNat / 16 < 16 by omega), hexIdx _ (show s[k].toNat % 16 < 16 by omega)] using HB4.out⟩, HW4⟩
        case measure => simp [intOf]; omega
    · obtain rfl : k = s.size := by omega
      have hkt : s.data.toList.take s.size = s.data.toList := List.take_of_length_le (by simp)
      have HK := Aside0.mk hkt
      clear hkt
      go_wp2_with (first | (go_at_call 25; refine (bld_byte w.heap.size w.heap.size _ 34 _ hb.out (by simp only [List.length_cons]; omega) hw.out.size).mono ?_; rintro e w2 ⟨rfl, hb2, hw2⟩; have HB2 := Aside0.mk hb2; have HW2 := Aside0.mk hw2; clear hb2 hw2) | (go_at_call 28; refine (bld_string w.heap.size w.heap.size _ _ HB2.out (Nat.le_trans hw.out.size HW2.out.size)).mono ?_; rintro e w3 ⟨rfl, hw3⟩))
      go_ret
      exact ⟨by rw [HK.out]; rfl, (hw.out.trans HW2.out).trans hw3⟩
theorem say_Quoted.calls (a0 : ByteArray) (r : ByteArray) (w : World) (h : say_Quoted.f a0 = some r) :
    Calls Try.prog 9 #[.string a0] w fun e w' => e = .returned (.string r) ∧ Below w.heap.size w w' := by
  unfold say_Quoted.f at h
  split at h
  · obtain rfl := Option.some.inj h
    exact Quoted_calls a0 w ‹_›
  · simp at h

end Go.Proofs.Ytokkjnfdfbpphaa.A
namespace Go.Proofs.Ytokkjnfdfbpphaa.A
open Go.RowKit Go.Proofs.YtokkjnfdfbpphaaW.PrintWords Go.Proofs.YtokkjnfdfbpphaaW.PrintLast Go.Proofs.YtokkjnfdfbpphaaW.PrintMore
attribute [local go_sem] max2_int min2_int max_two min_two max_three min_three max_four min_four   -- for this text's walks alone
set_option linter.unusedVariables false
set_option linter.unusedSimpArgs false

/-! ### chartularyref23_plain: function 30 -/
def chartularyref23_plain.f (a0 : Int) : Option (Bool) := if a0 ≥ 32 then (if a0 ≤ 126 then (if a0 = 34 then (some false) else (some (a0 != 92))) else (some false)) else (some false)
set_option maxHeartbeats 8000000 in
set_option maxRecDepth 100000 in
theorem chartularyref23_plain.calls (a0 : Int) (r : Bool) (w : World) (h : chartularyref23_plain.f a0 = some r) :
    Calls Try.prog 30 #[.int .u8 a0] w fun e w' => e = .returned (.bool r) ∧ Drawn0 w w' := by
  have H : (if a0 ≥ 32 then (if a0 ≤ 126 then (if a0 = 34 then (some false) else (some (a0 != 92))) else (some false)) else (some false)) = some r := h
  clear h
  by_cases c2 : a0 ≥ 32
  · rw [if_pos c2] at H
    have c2b0 : decide (32 ≤ a0) = true := decide_eq_true c2
    clear c2
    by_cases c3 : a0 ≤ 126
    · rw [if_pos c3] at H
      have c3b0 : decide (a0 ≤ 126) = true := decide_eq_true c3
      clear c3
      by_cases c4 : a0 = 34
      · rw [if_pos c4] at H
        have c4b0 : (a0 == 34) = true := beq_iff_eq.mpr c4
        have c4b1 : (a0 != 34) = false := bne_eq_false_iff_eq.mpr c4
        clear c4
        obtain rfl := Option.some.inj H
        go_enter Try.func30, Try.ntmps30
        go_wp2
        go_ret
        exact ⟨by first | rfl | (simp; done) | (simp [*]; done), by repeat (first | exact Drawn0.refl _ | apply Drawn0.step)⟩
      · rw [if_neg c4] at H
        have c4b0 : (a0 == 34) = false := beq_eq_false_iff_ne.mpr c4
        have c4b1 : (a0 != 34) = true := bne_iff_ne.mpr c4
        obtain rfl := Option.some.inj H
        go_enter Try.func30, Try.ntmps30
        go_wp2
        go_ret
        exact ⟨by first | rfl | (simp; done) | (simp [*]; done), by repeat (first | exact Drawn0.refl _ | apply Drawn0.step)⟩
    · rw [if_neg c3] at H
      have c3b0 : decide (a0 ≤ 126) = false := decide_eq_false c3
      clear c3
      obtain rfl := Option.some.inj H
      go_enter Try.func30, Try.ntmps30
      go_wp2
      go_ret
      exact ⟨by first | rfl | (simp; done) | (simp [*]; done), by repeat (first | exact Drawn0.refl _ | apply Drawn0.step)⟩
  · rw [if_neg c2] at H
    have c2b0 : decide (32 ≤ a0) = false := decide_eq_false c2
    clear c2
    obtain rfl := Option.some.inj H
    go_enter Try.func30, Try.ntmps30
    go_wp2
    go_ret
    exact ⟨by first | rfl | (simp; done) | (simp [*]; done), by repeat (first | exact Drawn0.refl _ | apply Drawn0.step)⟩

end Go.Proofs.Ytokkjnfdfbpphaa.A
namespace Go.Proofs.Ytokkjnfdfbpphaa.A
open Go.RowKit Go.Proofs.YtokkjnfdfbpphaaW.PrintWords Go.Proofs.YtokkjnfdfbpphaaW.PrintLast Go.Proofs.YtokkjnfdfbpphaaW.PrintMore
attribute [local go_sem] max2_int min2_int max_two min_two max_three min_three max_four min_four   -- for this text's walks alone
set_option linter.unusedVariables false
set_option linter.unusedSimpArgs false

/-! ### chartularyref23_Quoted: function 11 -/
def chartularyref23_Quoted.f (a0 : ByteArray) : Option (ByteArray) := if a0.size ≤ 4294967296 then some ⟨(quoted a0.data.toList).toArray⟩ else none
theorem ref_plain (c : UInt8) : chartularyref23_plain.f (c.toNat : Int) = some (isPlain c) := by
  unfold chartularyref23_plain.f
  have e : isPlain c = (decide ((32 : Int) ≤ c.toNat) && decide ((c.toNat : Int) ≤ 126) && !decide ((c.toNat : Int) = 34) && !decide ((c.toNat : Int) = 92)) := by
    unfold isPlain; rw [Bool.eq_iff_iff]; simp [UInt8.le_iff_toNat_le, UInt8.lt_iff_toNat_lt, ← UInt8.toNat_inj]; omega
  rw [e]; repeat' split
  all_goals (first | (simp_all; done) | (simp_all; omega) | (rw [Option.some.injEq, Bool.eq_iff_iff]; simp; omega))
theorem hex_ext (m : Nat) (hm : m < 16) : (⟨#[48, 49, 50, 51, 52, 53, 54, 55, 56, 57, 97, 98, 99, 100, 101, 102]⟩ : ByteArray).extract m (m + 1) = ⟨[hexDigit m].toArray⟩ := by
  have h : m < (⟨#[48, 49, 50, 51, 52, 53, 54, 55, 56, 57, 97, 98, 99, 100, 101, 102]⟩ : ByteArray).size := hm
  rw [extract_one _ m h, hexIdx m hm]
set_option maxRecDepth 100000 in
set_option maxHeartbeats 2000000 in
theorem chartularyref23_Quoted.calls (a0 : ByteArray) (r : ByteArray) (w : World) (h : chartularyref23_Quoted.f a0 = some r) :
    Calls Try.prog 11 #[.string a0] w fun e w' => e = .returned (.string r) ∧ Drawn0 w w' := by
  unfold chartularyref23_Quoted.f at h
  split at h
  case isFalse => exact absurd h (by simp)
  rename_i hs
  simp only [Option.some.injEq] at h
  subst h
  go_enter Try.func11, Try.ntmps11
  go_wp2_with fail
  go_loopw [4, 5] (fun v4 v5 wr => ∃ (i : Nat) (O : ByteArray), v5 = .int .i64 (i : Int) ∧ i ≤ a0.size ∧ v4 = .string O ∧ Aside0 (O = ⟨(34 :: quoteBody (a0.data.toList.take i)).toArray⟩) ∧ Aside0 (Drawn0 w wr)) (fun _ v5 _ => a0.size - (intOf v5).toNat)
  case atStart => exact ⟨0, _, rfl, Nat.zero_le _, rfl, ⟨by simp [quoteBody]⟩, ⟨Drawn0.refl w⟩⟩
  case round =>
    obtain ⟨i, O, rfl, hi, rfl, HO, HW⟩ := hrel
    have hOs : O.size ≤ 17179869200 := by
      rw [HO.out]
      have h1 := quoteBody_le (a0.data.toList.take i)
      have h2 : (a0.data.toList.take i).length ≤ a0.size := by simp; have : a0.data.size = a0.size := rfl; omega
      show (34 :: quoteBody (a0.data.toList.take i)).toArray.size ≤ _
      simp only [List.size_toArray, List.length_cons]
      omega
    by_cases hlt : i < a0.size
    · have hst := Aside0.mk (take_snoc a0 i hlt)
      have hd : decide ((i : Int) < (a0.size : Int)) = true := by simp [hlt]
      cases hp : isPlain a0[i] with
      | true =>
        have hpl := Aside0.mk hp
        have HP : Aside0 (chartularyref23_plain.f (a0[i].toNat : Int) = some true) := ⟨by rw [ref_plain, hp]⟩
        have hi0 : (0 : Int) ≤ (i : Int) := by omega
        have hi1 : (i : Int) ≤ (i : Int) + 1 := by omega
        have hi2 : (i : Int) + 1 ≤ (a0.size : Int) := by omega
        have hi3 : ((i : Int) + 1).toNat = i + 1 := by omega
        have hxa : (a0.extract i (i + 1)).size ≤ 140737488351232 := by simp; omega
        go_wp2_with fail
        refine (chartularyref23_plain.calls _ _ _ HP.out).mono ?_
        rintro e w2 ⟨rfl, hw2⟩
        obtain ⟨⟨n, rfl⟩⟩ := hw2
        replace HW := Aside0.mk (HW.out.step n)
        revert HW
        generalize wr.drewN n = wd
        intro HW
        go_wp2_with fail
        go_roundw
        case rel => exact ⟨i + 1, _, by go_num, by omega, rfl, ⟨by rw [HO.out, hst.out, quoteBody_snoc, extract_one a0 i hlt]; apply ba_ext; simp [quoteByte, hpl.out]⟩, HW⟩
        case measure => simp [intOf]; omega
      | false =>
        have hpl := Aside0.mk hp
        have HP : Aside0 (chartularyref23_plain.f (a0[i].toNat : Int) = some false) := ⟨by rw [ref_plain, hp]⟩
        have hc := a0[i].toNat_lt
        have hx1 : (0 : Int) ≤ (a0[i].toNat : Int) / 16 := by omega
        have hx2 : (a0[i].toNat : Int) / 16 < 16 := by omega
        have hx3 : (0 : Int) ≤ (a0[i].toNat : Int) % 16 := by omega
        have hx4 : (a0[i].toNat : Int) % 16 < 16 := by omega
        go_wp2_with fail
        refine (chartularyref23_plain.calls _ _ _ HP.out).mono ?_
        rintro e w2 ⟨rfl, hw2⟩
        obtain ⟨⟨n, rfl⟩⟩ := hw2
        replace HW := Aside0.mk (HW.out.step n)
        revert HW
        generalize wr.drewN n = wd
        intro HW
        go_wp2_with fail
        obtain ⟨X, hX⟩ : ∃ X : ByteArray, X = ⟨#[48, 49, 50, 51, 52, 53, 54, 55, 56, 57, 97, 98, 99, 100, 101, 102]⟩ := ⟨_, rfl⟩
        have HX : Aside0 (∀ m : Nat, m < 16 → X.extract m (m + 1) = ⟨[hexDigit m].toArray⟩) := ⟨fun m hm => by
          subst hX
          exact hex_ext m hm⟩
        have hXs : X.size = 16 := by rw [hX]; rfl
        rw [← hX]
        have HXD := Aside0.mk hX
        clear hX
        have HN : Aside0 (a0[i].toNat / 16 < 16 ∧ a0[i].toNat % 16 < 16) := ⟨by omega⟩
        have HA : Aside0 ((a0[i].toNat : Int) / 16 = ((a0[i].toNat / 16 : Nat) : Int)) := ⟨by omega⟩
        have HB : Aside0 ((a0[i].toNat : Int) % 16 = ((a0[i].toNat % 16 : Nat) : Int)) := ⟨by omega⟩
        generalize (a0[i].toNat : Int) / 16 = H at hx1 hx2 HA ⊢
        generalize (a0[i].toNat : Int) % 16 = L at hx3 hx4 HB ⊢
        have s1 : IntKind.i64.wrap (H + 1) = H + 1 := by simp only [i64_w]; unfold wrap64; omega
        have s2 : IntKind.i64.wrap (L + 1) = L + 1 := by simp only [i64_w]; unfold wrap64; omega
        have z0 : (⟨#[92, 120]⟩ : ByteArray).size ≤ 140737488351232 := by decide
        have s3 : H ≤ H + 1 := by omega
        have s4 : L ≤ L + 1 := by omega
        have s5 : H + 1 ≤ (X.size : Int) := by rw [hXs]; omega
        have s6 : L + 1 ≤ (X.size : Int) := by rw [hXs]; omega
        have z1 : (O ++ (⟨#[92, 120]⟩ : ByteArray)).size ≤ 140737488351232 := by rw [ByteArray.size_append]; have : (⟨#[92, 120]⟩ : ByteArray).size = 2 := rfl; omega
        have z2 : (X.extract H.toNat (H + 1).toNat).size ≤ 140737488351232 := by simp; omega
        have z3 : (X.extract L.toNat (L + 1).toNat).size ≤ 140737488351232 := by simp; omega
        have z4 : (O ++ (⟨#[92, 120]⟩ : ByteArray) ++ X.extract H.toNat (H + 1).toNat).size ≤ 140737488351232 := by rw [ByteArray.size_append, ByteArray.size_append, ByteArray.size_extract]; have : (⟨#[92, 120]⟩ : ByteArray).size = 2 := rfl; omega
        clear hXs
        go_region
        have HE : Aside0 (O ++ (⟨#[92, 120]⟩ : ByteArray) ++ X.extract H.toNat (H + 1).toNat ++ X.extract L.toNat (L + 1).toNat = ⟨(34 :: quoteBody (a0.data.toList.take (i + 1))).toArray⟩) := ⟨by
          rw [hst.out, quoteBody_snoc, HO.out, HA.out, HB.out]
          have e1 : (((a0[i].toNat / 16 : Nat) : Int) + 1).toNat = a0[i].toNat / 16 + 1 := by omega
          have e2 : (((a0[i].toNat % 16 : Nat) : Int) + 1).toNat = a0[i].toNat % 16 + 1 := by omega
          rw [e1, e2, Int.toNat_natCast, Int.toNat_natCast, HX.out _ HN.out.1, HX.out _ HN.out.2]
          apply ba_ext
          simp [quoteByte, hpl.out]⟩
        rw [HE.out]
        clear HE HX HN HA HB s1 s2 s3 s4 s5 s6 z1 z2 z3 z4
        rw [HXD.out]
        go_wp2_with fail
        go_roundw
        case rel => exact ⟨i + 1, _, by go_num, by omega, rfl, ⟨rfl⟩, ⟨HW.out.step 1⟩⟩
        case measure => simp [intOf]; omega
    · obtain rfl : i = a0.size := by omega
      have hd : decide ((a0.size : Int) < (a0.size : Int)) = false := by simp
      have hxb : (⟨#[34]⟩ : ByteArray).size ≤ 140737488351232 := by decide
      go_wp2_with fail
      go_ret
      refine ⟨?_, HW.out⟩
      have hkt : a0.data.toList.take a0.size = a0.data.toList := List.take_of_length_le (by simp)
      show Ending.returned (Value.string (O ++ ⟨#[34]⟩)) = _
      rw [HO.out, hkt]
      congr 2

end Go.Proofs.Ytokkjnfdfbpphaa.A
namespace Go.Proofs.Ytokkjnfdfbpphaa.A
open Go.RowKit Go.Proofs.YtokkjnfdfbpphaaW.PrintWords Go.Proofs.YtokkjnfdfbpphaaW.PrintLast Go.Proofs.YtokkjnfdfbpphaaW.PrintMore
attribute [local go_sem] max2_int min2_int max_two min_two max_three min_three max_four min_four   -- for this text's walks alone
set_option linter.unusedVariables false
set_option linter.unusedSimpArgs false

/-! ### chartularylaw23_SayQuotes: function 3 -/
def chartularylaw23_SayQuotes.f (k : Nat) (a0 : ByteArray) : Option (Bool) := (chartularylaw23_cut.f a0).bind fun t236 => ((say_Quoted.f t236).bind fun t237 => ((say_Tokens.f t237).bind fun bt238 => ((chartularyref23_Quoted.f t236).bind fun t243 => (if t237.toList = t243.toList then (if bt238.2.2 = 0 then (if (bt238.1.length : Int) = 1 then (if 0 < (bt238.1.length : Int) then (if ((rd_T28 bt238.1 0).f0) = 2 then (if ((rd_T28 bt238.1 0).f1).toList = t236.toList then ((chartularylaw23_awake.f k).bind fun t246 => (some t246)) else (some false)) else (some false)) else (none)) else (some false)) else (some false)) else (some false)))))
theorem chartularylaw23_SayQuotes.mono : ∀ a0 k, LeO (chartularylaw23_SayQuotes.f k a0) (chartularylaw23_SayQuotes.f (k + 1) a0) := by
  intro a0 k
  unfold chartularylaw23_SayQuotes.f
  repeat' first
      | (with_reducible exact chartularylaw23_awake.mono _)
      | (with_reducible exact LeO.refl _)
      | (with_reducible exact LeO.none _)
      | (with_reducible refine LeO.ite ?_ ?_)
      | (with_reducible refine LeO.bind ?_ (fun _ => ?_))
      | exact chartularylaw23_awake.mono _
      | exact LeO.none _
      | refine LeO.ite ?_ ?_
      | refine LeO.bind ?_ (fun _ => ?_)
set_option maxHeartbeats 8000000 in
set_option maxRecDepth 100000 in
theorem chartularylaw23_SayQuotes.calls (k : Nat) (a0 : ByteArray) (r : Bool) (w : World) (h : chartularylaw23_SayQuotes.f k a0 = some r) :
    Calls Try.prog 3 #[.string a0] w fun e w' => e = .returned (.bool r) ∧ Below w.heap.size w w' := by
  have HB := Aside0.mk (Below.refl w.heap.size w)
  have H : ((chartularylaw23_cut.f a0).bind fun t236 => ((say_Quoted.f t236).bind fun t237 => ((say_Tokens.f t237).bind fun bt238 => ((chartularyref23_Quoted.f t236).bind fun t243 => (if t237.toList = t243.toList then (if bt238.2.2 = 0 then (if (bt238.1.length : Int) = 1 then (if 0 < (bt238.1.length : Int) then (if ((rd_T28 bt238.1 0).f0) = 2 then (if ((rd_T28 bt238.1 0).f1).toList = t236.toList then ((chartularylaw23_awake.f k).bind fun t246 => (some t246)) else (some false)) else (some false)) else (none)) else (some false)) else (some false)) else (some false)))))) = some r := h
  clear h
  replace H := Option.bind_eq_some_iff.mp H
  obtain ⟨t236, A20, H⟩ := H
  replace H : ((say_Quoted.f t236).bind fun t237 => ((say_Tokens.f t237).bind fun bt238 => ((chartularyref23_Quoted.f t236).bind fun t243 => (if t237.toList = t243.toList then (if bt238.2.2 = 0 then (if (bt238.1.length : Int) = 1 then (if 0 < (bt238.1.length : Int) then (if ((rd_T28 bt238.1 0).f0) = 2 then (if ((rd_T28 bt238.1 0).f1).toList = t236.toList then ((chartularylaw23_awake.f k).bind fun t246 => (some t246)) else (some false)) else (some false)) else (none)) else (some false)) else (some false)) else (some false))))) = some r := H
  have A2 := Aside0.mk A20
  clear A20
  replace H := Option.bind_eq_some_iff.mp H
  obtain ⟨t237, A30, H⟩ := H
  replace H : ((say_Tokens.f t237).bind fun bt238 => ((chartularyref23_Quoted.f t236).bind fun t243 => (if t237.toList = t243.toList then (if bt238.2.2 = 0 then (if (bt238.1.length : Int) = 1 then (if 0 < (bt238.1.length : Int) then (if ((rd_T28 bt238.1 0).f0) = 2 then (if ((rd_T28 bt238.1 0).f1).toList = t236.toList then ((chartularylaw23_awake.f k).bind fun t246 => (some t246)) else (some false)) else (some false)) else (none)) else (some false)) else (some false)) else (some false)))) = some r := H
  have A3 := Aside0.mk A30
  clear A30
  replace H := Option.bind_eq_some_iff.mp H
  obtain ⟨⟨t238, t239, t240⟩, A40, H⟩ := H
  replace H : ((chartularyref23_Quoted.f t236).bind fun t243 => (if t237.toList = t243.toList then (if t240 = 0 then (if (t238.length : Int) = 1 then (if 0 < (t238.length : Int) then (if ((rd_T28 t238 0).f0) = 2 then (if ((rd_T28 t238 0).f1).toList = t236.toList then ((chartularylaw23_awake.f k).bind fun t246 => (some t246)) else (some false)) else (some false)) else (none)) else (some false)) else (some false)) else (some false))) = some r := H
  have A4 := Aside0.mk A40
  clear A40
  replace H := Option.bind_eq_some_iff.mp H
  obtain ⟨t243, A50, H⟩ := H
  replace H : (if t237.toList = t243.toList then (if t240 = 0 then (if (t238.length : Int) = 1 then (if 0 < (t238.length : Int) then (if ((rd_T28 t238 0).f0) = 2 then (if ((rd_T28 t238 0).f1).toList = t236.toList then ((chartularylaw23_awake.f k).bind fun t246 => (some t246)) else (some false)) else (some false)) else (none)) else (some false)) else (some false)) else (some false)) = some r := H
  have A5 := Aside0.mk A50
  clear A50
  by_cases c6 : t237.toList = t243.toList
  · rw [if_pos c6] at H
    have c6b0 : (t237.toList == t243.toList) = true := beq_iff_eq.mpr c6
    have c6b1 : (t237.toList != t243.toList) = false := bne_eq_false_iff_eq.mpr c6
    clear c6
    by_cases c7 : t240 = 0
    · rw [if_pos c7] at H
      have c7b0 : (t240 == 0) = true := beq_iff_eq.mpr c7
      have c7b1 : (t240 != 0) = false := bne_eq_false_iff_eq.mpr c7
      clear c7
      by_cases c8 : (t238.length : Int) = 1
      · rw [if_pos c8] at H
        have c8b0 : ((t238.length : Int) == 1) = true := beq_iff_eq.mpr c8
        have c8b1 : ((t238.length : Int) != 1) = false := bne_eq_false_iff_eq.mpr c8
        clear c8
        by_cases c9 : 0 < (t238.length : Int)
        · rw [if_pos c9] at H
          have c9b0 : decide (0 < (t238.length : Int)) = true := decide_eq_true c9
          have c9b1 : decide (0 < t238.length) = true := decide_eq_true (by omega)
          clear c9
          by_cases c10 : ((rd_T28 t238 0).f0) = 2
          · rw [if_pos c10] at H
            have c10b0 : (((rd_T28 t238 0).f0) == 2) = true := beq_iff_eq.mpr c10
            have c10b1 : (((rd_T28 t238 0).f0) != 2) = false := bne_eq_false_iff_eq.mpr c10
            clear c10
            by_cases c11 : ((rd_T28 t238 0).f1).toList = t236.toList
            · rw [if_pos c11] at H
              have c11b0 : (((rd_T28 t238 0).f1).toList == t236.toList) = true := beq_iff_eq.mpr c11
              have c11b1 : (((rd_T28 t238 0).f1).toList != t236.toList) = false := bne_eq_false_iff_eq.mpr c11
              clear c11
              replace H := Option.bind_eq_some_iff.mp H
              obtain ⟨t246, A120, H⟩ := H
              replace H : (some t246) = some r := H
              have A12 := Aside0.mk A120
              clear A120
              obtain rfl := Option.some.inj H
              go_enter Try.func3, Try.ntmps3
              go_wp2_with (first | ((with_reducible refine gate_callee (f := 8) rfl ?_); refine goesL_ (some 8) rfl rfl Try.func8 (by kernel_rfl) rfl #[.string a0] rfl (by (try simp only [List.map_toArray, List.map_cons, List.map_nil]); first | done | rfl | (simp only [List.length_drop, List.length_take]; rfl)) ?_; (with_reducible refine (chartularylaw23_cut.calls a0 t236 _ A2.out).mono ?_); rintro e w' ⟨rfl, ⟨nd, rfl⟩⟩; refine ⟨_, rfl, ?_⟩) | ((with_reducible refine gate_callee (f := 9) rfl ?_); refine goesL_ (some 10) rfl rfl Try.func9 (by kernel_rfl) rfl #[.string t236] rfl (by (try simp only [List.map_toArray, List.map_cons, List.map_nil]); first | done | rfl | (simp only [List.length_drop, List.length_take]; rfl)) ?_; (with_reducible refine (say_Quoted.calls t236 t237 _ A3.out).mono ?_); rintro e w13 ⟨rfl, hb⟩; refine ⟨_, rfl, ?_⟩; have n0_ := Aside0.mk (below_step (by repeat (first | (with_reducible first | exact HB.out | apply below_alloc | apply pw_below_drewN | apply below_drew1) | exact HB.out)) hb); clear HB; have HB := n0_; clear n0_; (try clear hb); (try clear hb2); (try clear hk); (try clear hi)) | ((with_reducible refine gate_callee (f := 10) rfl ?_); refine goesL_ (some 13) rfl rfl Try.func10 (by kernel_rfl) rfl #[.string t237] rfl (by (try simp only [List.map_toArray, List.map_cons, List.map_nil]); first | done | rfl | (simp only [List.length_drop, List.length_take]; rfl)) ?_; (with_reducible refine (say_Tokens.calls t237 t238 t239 t240 _ A4.out).mono ?_); rintro e w14 ⟨v241, rfl, ho0, hb⟩; refine ⟨_, rfl, ?_⟩; have n0_ := Aside0.mk (Kd.R_lower ho0 (below_size (by repeat (first | (with_reducible first | exact HB.out | apply below_alloc | apply pw_below_drewN | apply below_drew1) | exact HB.out)))); have n1_ := Aside0.mk (below_step (by repeat (first | (with_reducible first | exact HB.out | apply below_alloc | apply pw_below_drewN | apply below_drew1) | exact HB.out)) hb); clear HB; have HO242 := n0_; have HB := n1_; clear n0_ n1_; (try clear hb); (try clear hb2); (try clear hk); (try clear hi); (try clear ho0)) | ((with_reducible refine gate_callee (f := 11) rfl ?_); refine goesL_ (some 19) rfl rfl Try.func11 (by kernel_rfl) rfl #[.string t236] rfl (by (try simp only [List.map_toArray, List.map_cons, List.map_nil]); first | done | rfl | (simp only [List.length_drop, List.length_take]; rfl)) ?_; (with_reducible refine (chartularyref23_Quoted.calls t236 t243 _ A5.out).mono ?_); rintro e w' ⟨rfl, ⟨nd, rfl⟩⟩; refine ⟨_, rfl, ?_⟩; obtain ⟨Ao15, co15, eo15⟩ := Kd.R_slice HO242.out; subst eo15; have p244 : 0 ≤ (0 : Int) := (by omega); have q244 : 0 < (t238.length : Int) := of_decide_eq_true (by first | (with_reducible assumption) | assumption); obtain ⟨ad244, e244, hx244_0, hx244_1, hx244_2⟩ := at_T28 (Kd.R_reads' HO242.out).2.2 0 p244 q244; cases e244; have qi244 : (0 < t238.length) = True := eq_true (by omega); (try rw [show ((0 : Int)).toNat = 0 from rfl] at hx244_0); (try rw [show 0 * 3 = 0 from rfl] at hx244_0); (try rw [Addr.add_zero'] at hx244_0); (try rw [show ((0 : Int)).toNat = 0 from rfl] at hx244_1); (try rw [show 0 * 3 = 0 from rfl] at hx244_1); (try rw [Addr.add_zero'] at hx244_1); (try rw [show ((0 : Int)).toNat = 0 from rfl] at hx244_2); (try rw [show 0 * 3 = 0 from rfl] at hx244_2); (try rw [Addr.add_zero'] at hx244_2); replace p244 := eq_true p244; replace q244 := eq_true q244; have p245 : 0 ≤ (0 : Int) := (by omega); have q245 : 0 < (t238.length : Int) := of_decide_eq_true (by first | (with_reducible assumption) | assumption); obtain ⟨ad245, e245, hx245_0, hx245_1, hx245_2⟩ := at_T28 (Kd.R_reads' HO242.out).2.2 0 p245 q245; obtain rfl : ad244 = ad245 := (by injection e245); have qi245 : (0 < t238.length) = True := eq_true (by omega); (try rw [show ((0 : Int)).toNat = 0 from rfl] at hx245_0); (try rw [show 0 * 3 = 0 from rfl] at hx245_0); (try rw [Addr.add_zero'] at hx245_0); (try rw [show ((0 : Int)).toNat = 0 from rfl] at hx245_1); (try rw [show 0 * 3 = 0 from rfl] at hx245_1); (try rw [Addr.add_zero'] at hx245_1); (try rw [show ((0 : Int)).toNat = 0 from rfl] at hx245_2); (try rw [show 0 * 3 = 0 from rfl] at hx245_2); (try rw [Addr.add_zero'] at hx245_2); replace p245 := eq_true p245; replace q245 := eq_true q245) | (go_at_call 12; (with_reducible refine (chartularylaw23_awake.calls k  t246 _ A12.out).mono ?_); rintro e w16 ⟨rfl, hb⟩; have n0_ := Aside0.mk (Kd.R_below (by (with_reducible repeat (first | apply Kd.R_alloc | apply Kd.R_drewN | apply Kd.R_drew)); exact HO242.out) hb); have n1_ := Aside0.mk (below_step (by repeat (first | (with_reducible first | exact HB.out | apply below_alloc | apply pw_below_drewN | apply below_drew1) | exact HB.out)) hb); clear HO242; clear HB; have HO242 := n0_; have HB := n1_; clear n0_ n1_; (try clear hb); (try clear hb2); (try clear hk); (try clear hi)))
              go_ret
              exact ⟨by first | rfl | (simp [errW_none, errW_some] <;> rfl) | (simp [*, errW_none, errW_some] <;> rfl), by repeat (first | (with_reducible first | exact HB.out | apply below_alloc | apply pw_below_drewN | apply below_drew1) | exact HB.out)⟩
            · rw [if_neg c11] at H
              have c11b0 : (((rd_T28 t238 0).f1).toList == t236.toList) = false := beq_eq_false_iff_ne.mpr c11
              have c11b1 : (((rd_T28 t238 0).f1).toList != t236.toList) = true := bne_iff_ne.mpr c11
              obtain rfl := Option.some.inj H
              go_enter Try.func3, Try.ntmps3
              go_wp2_with (first | ((with_reducible refine gate_callee (f := 8) rfl ?_); refine goesL_ (some 8) rfl rfl Try.func8 (by kernel_rfl) rfl #[.string a0] rfl (by (try simp only [List.map_toArray, List.map_cons, List.map_nil]); first | done | rfl | (simp only [List.length_drop, List.length_take]; rfl)) ?_; (with_reducible refine (chartularylaw23_cut.calls a0 t236 _ A2.out).mono ?_); rintro e w' ⟨rfl, ⟨nd, rfl⟩⟩; refine ⟨_, rfl, ?_⟩) | ((with_reducible refine gate_callee (f := 9) rfl ?_); refine goesL_ (some 10) rfl rfl Try.func9 (by kernel_rfl) rfl #[.string t236] rfl (by (try simp only [List.map_toArray, List.map_cons, List.map_nil]); first | done | rfl | (simp only [List.length_drop, List.length_take]; rfl)) ?_; (with_reducible refine (say_Quoted.calls t236 t237 _ A3.out).mono ?_); rintro e w17 ⟨rfl, hb⟩; refine ⟨_, rfl, ?_⟩; have n0_ := Aside0.mk (below_step (by repeat (first | (with_reducible first | exact HB.out | apply below_alloc | apply pw_below_drewN | apply below_drew1) | exact HB.out)) hb); clear HB; have HB := n0_; clear n0_; (try clear hb); (try clear hb2); (try clear hk); (try clear hi)) | ((with_reducible refine gate_callee (f := 10) rfl ?_); refine goesL_ (some 13) rfl rfl Try.func10 (by kernel_rfl) rfl #[.string t237] rfl (by (try simp only [List.map_toArray, List.map_cons, List.map_nil]); first | done | rfl | (simp only [List.length_drop, List.length_take]; rfl)) ?_; (with_reducible refine (say_Tokens.calls t237 t238 t239 t240 _ A4.out).mono ?_); rintro e w18 ⟨v241, rfl, ho0, hb⟩; refine ⟨_, rfl, ?_⟩; have n0_ := Aside0.mk (Kd.R_lower ho0 (below_size (by repeat (first | (with_reducible first | exact HB.out | apply below_alloc | apply pw_below_drewN | apply below_drew1) | exact HB.out)))); have n1_ := Aside0.mk (below_step (by repeat (first | (with_reducible first | exact HB.out | apply below_alloc | apply pw_below_drewN | apply below_drew1) | exact HB.out)) hb); clear HB; have HO242 := n0_; have HB := n1_; clear n0_ n1_; (try clear hb); (try clear hb2); (try clear hk); (try clear hi); (try clear ho0)) | ((with_reducible refine gate_callee (f := 11) rfl ?_); refine goesL_ (some 19) rfl rfl Try.func11 (by kernel_rfl) rfl #[.string t236] rfl (by (try simp only [List.map_toArray, List.map_cons, List.map_nil]); first | done | rfl | (simp only [List.length_drop, List.length_take]; rfl)) ?_; (with_reducible refine (chartularyref23_Quoted.calls t236 t243 _ A5.out).mono ?_); rintro e w' ⟨rfl, ⟨nd, rfl⟩⟩; refine ⟨_, rfl, ?_⟩; obtain ⟨Ao19, co19, eo19⟩ := Kd.R_slice HO242.out; subst eo19; have p244 : 0 ≤ (0 : Int) := (by omega); have q244 : 0 < (t238.length : Int) := of_decide_eq_true (by first | (with_reducible assumption) | assumption); obtain ⟨ad244, e244, hx244_0, hx244_1, hx244_2⟩ := at_T28 (Kd.R_reads' HO242.out).2.2 0 p244 q244; cases e244; have qi244 : (0 < t238.length) = True := eq_true (by omega); (try rw [show ((0 : Int)).toNat = 0 from rfl] at hx244_0); (try rw [show 0 * 3 = 0 from rfl] at hx244_0); (try rw [Addr.add_zero'] at hx244_0); (try rw [show ((0 : Int)).toNat = 0 from rfl] at hx244_1); (try rw [show 0 * 3 = 0 from rfl] at hx244_1); (try rw [Addr.add_zero'] at hx244_1); (try rw [show ((0 : Int)).toNat = 0 from rfl] at hx244_2); (try rw [show 0 * 3 = 0 from rfl] at hx244_2); (try rw [Addr.add_zero'] at hx244_2); replace p244 := eq_true p244; replace q244 := eq_true q244; have p245 : 0 ≤ (0 : Int) := (by omega); have q245 : 0 < (t238.length : Int) := of_decide_eq_true (by first | (with_reducible assumption) | assumption); obtain ⟨ad245, e245, hx245_0, hx245_1, hx245_2⟩ := at_T28 (Kd.R_reads' HO242.out).2.2 0 p245 q245; obtain rfl : ad244 = ad245 := (by injection e245); have qi245 : (0 < t238.length) = True := eq_true (by omega); (try rw [show ((0 : Int)).toNat = 0 from rfl] at hx245_0); (try rw [show 0 * 3 = 0 from rfl] at hx245_0); (try rw [Addr.add_zero'] at hx245_0); (try rw [show ((0 : Int)).toNat = 0 from rfl] at hx245_1); (try rw [show 0 * 3 = 0 from rfl] at hx245_1); (try rw [Addr.add_zero'] at hx245_1); (try rw [show ((0 : Int)).toNat = 0 from rfl] at hx245_2); (try rw [show 0 * 3 = 0 from rfl] at hx245_2); (try rw [Addr.add_zero'] at hx245_2); replace p245 := eq_true p245; replace q245 := eq_true q245))
              go_ret
              exact ⟨by first | rfl | (simp [errW_none, errW_some] <;> rfl) | (simp [*, errW_none, errW_some] <;> rfl), by repeat (first | (with_reducible first | exact HB.out | apply below_alloc | apply pw_below_drewN | apply below_drew1) | exact HB.out)⟩
          · rw [if_neg c10] at H
            have c10b0 : (((rd_T28 t238 0).f0) == 2) = false := beq_eq_false_iff_ne.mpr c10
            have c10b1 : (((rd_T28 t238 0).f0) != 2) = true := bne_iff_ne.mpr c10
            obtain rfl := Option.some.inj H
            go_enter Try.func3, Try.ntmps3
            go_wp2_with (first | ((with_reducible refine gate_callee (f := 8) rfl ?_); refine goesL_ (some 8) rfl rfl Try.func8 (by kernel_rfl) rfl #[.string a0] rfl (by (try simp only [List.map_toArray, List.map_cons, List.map_nil]); first | done | rfl | (simp only [List.length_drop, List.length_take]; rfl)) ?_; (with_reducible refine (chartularylaw23_cut.calls a0 t236 _ A2.out).mono ?_); rintro e w' ⟨rfl, ⟨nd, rfl⟩⟩; refine ⟨_, rfl, ?_⟩) | ((with_reducible refine gate_callee (f := 9) rfl ?_); refine goesL_ (some 10) rfl rfl Try.func9 (by kernel_rfl) rfl #[.string t236] rfl (by (try simp only [List.map_toArray, List.map_cons, List.map_nil]); first | done | rfl | (simp only [List.length_drop, List.length_take]; rfl)) ?_; (with_reducible refine (say_Quoted.calls t236 t237 _ A3.out).mono ?_); rintro e w20 ⟨rfl, hb⟩; refine ⟨_, rfl, ?_⟩; have n0_ := Aside0.mk (below_step (by repeat (first | (with_reducible first | exact HB.out | apply below_alloc | apply pw_below_drewN | apply below_drew1) | exact HB.out)) hb); clear HB; have HB := n0_; clear n0_; (try clear hb); (try clear hb2); (try clear hk); (try clear hi)) | ((with_reducible refine gate_callee (f := 10) rfl ?_); refine goesL_ (some 13) rfl rfl Try.func10 (by kernel_rfl) rfl #[.string t237] rfl (by (try simp only [List.map_toArray, List.map_cons, List.map_nil]); first | done | rfl | (simp only [List.length_drop, List.length_take]; rfl)) ?_; (with_reducible refine (say_Tokens.calls t237 t238 t239 t240 _ A4.out).mono ?_); rintro e w21 ⟨v241, rfl, ho0, hb⟩; refine ⟨_, rfl, ?_⟩; have n0_ := Aside0.mk (Kd.R_lower ho0 (below_size (by repeat (first | (with_reducible first | exact HB.out | apply below_alloc | apply pw_below_drewN | apply below_drew1) | exact HB.out)))); have n1_ := Aside0.mk (below_step (by repeat (first | (with_reducible first | exact HB.out | apply below_alloc | apply pw_below_drewN | apply below_drew1) | exact HB.out)) hb); clear HB; have HO242 := n0_; have HB := n1_; clear n0_ n1_; (try clear hb); (try clear hb2); (try clear hk); (try clear hi); (try clear ho0)) | ((with_reducible refine gate_callee (f := 11) rfl ?_); refine goesL_ (some 19) rfl rfl Try.func11 (by kernel_rfl) rfl #[.string t236] rfl (by (try simp only [List.map_toArray, List.map_cons, List.map_nil]); first | done | rfl | (simp only [List.length_drop, List.length_take]; rfl)) ?_; (with_reducible refine (chartularyref23_Quoted.calls t236 t243 _ A5.out).mono ?_); rintro e w' ⟨rfl, ⟨nd, rfl⟩⟩; refine ⟨_, rfl, ?_⟩; obtain ⟨Ao22, co22, eo22⟩ := Kd.R_slice HO242.out; subst eo22; have p244 : 0 ≤ (0 : Int) := (by omega); have q244 : 0 < (t238.length : Int) := of_decide_eq_true (by first | (with_reducible assumption) | assumption); obtain ⟨ad244, e244, hx244_0, hx244_1, hx244_2⟩ := at_T28 (Kd.R_reads' HO242.out).2.2 0 p244 q244; cases e244; have qi244 : (0 < t238.length) = True := eq_true (by omega); (try rw [show ((0 : Int)).toNat = 0 from rfl] at hx244_0); (try rw [show 0 * 3 = 0 from rfl] at hx244_0); (try rw [Addr.add_zero'] at hx244_0); (try rw [show ((0 : Int)).toNat = 0 from rfl] at hx244_1); (try rw [show 0 * 3 = 0 from rfl] at hx244_1); (try rw [Addr.add_zero'] at hx244_1); (try rw [show ((0 : Int)).toNat = 0 from rfl] at hx244_2); (try rw [show 0 * 3 = 0 from rfl] at hx244_2); (try rw [Addr.add_zero'] at hx244_2); replace p244 := eq_true p244; replace q244 := eq_true q244))
            go_ret
            exact ⟨by first | rfl | (simp [errW_none, errW_some] <;> rfl) | (simp [*, errW_none, errW_some] <;> rfl), by repeat (first | (with_reducible first | exact HB.out | apply below_alloc | apply pw_below_drewN | apply below_drew1) | exact HB.out)⟩
        · rw [if_neg c9] at H
          exact absurd H (by simp)
      · rw [if_neg c8] at H
        have c8b0 : ((t238.length : Int) == 1) = false := beq_eq_false_iff_ne.mpr c8
        have c8b1 : ((t238.length : Int) != 1) = true := bne_iff_ne.mpr c8
        obtain rfl := Option.some.inj H
        go_enter Try.func3, Try.ntmps3
        go_wp2_with (first | ((with_reducible refine gate_callee (f := 8) rfl ?_); refine goesL_ (some 8) rfl rfl Try.func8 (by kernel_rfl) rfl #[.string a0] rfl (by (try simp only [List.map_toArray, List.map_cons, List.map_nil]); first | done | rfl | (simp only [List.length_drop, List.length_take]; rfl)) ?_; (with_reducible refine (chartularylaw23_cut.calls a0 t236 _ A2.out).mono ?_); rintro e w' ⟨rfl, ⟨nd, rfl⟩⟩; refine ⟨_, rfl, ?_⟩) | ((with_reducible refine gate_callee (f := 9) rfl ?_); refine goesL_ (some 10) rfl rfl Try.func9 (by kernel_rfl) rfl #[.string t236] rfl (by (try simp only [List.map_toArray, List.map_cons, List.map_nil]); first | done | rfl | (simp only [List.length_drop, List.length_take]; rfl)) ?_; (with_reducible refine (say_Quoted.calls t236 t237 _ A3.out).mono ?_); rintro e w23 ⟨rfl, hb⟩; refine ⟨_, rfl, ?_⟩; have n0_ := Aside0.mk (below_step (by repeat (first | (with_reducible first | exact HB.out | apply below_alloc | apply pw_below_drewN | apply below_drew1) | exact HB.out)) hb); clear HB; have HB := n0_; clear n0_; (try clear hb); (try clear hb2); (try clear hk); (try clear hi)) | ((with_reducible refine gate_callee (f := 10) rfl ?_); refine goesL_ (some 13) rfl rfl Try.func10 (by kernel_rfl) rfl #[.string t237] rfl (by (try simp only [List.map_toArray, List.map_cons, List.map_nil]); first | done | rfl | (simp only [List.length_drop, List.length_take]; rfl)) ?_; (with_reducible refine (say_Tokens.calls t237 t238 t239 t240 _ A4.out).mono ?_); rintro e w24 ⟨v241, rfl, ho0, hb⟩; refine ⟨_, rfl, ?_⟩; have n0_ := Aside0.mk (Kd.R_lower ho0 (below_size (by repeat (first | (with_reducible first | exact HB.out | apply below_alloc | apply pw_below_drewN | apply below_drew1) | exact HB.out)))); have n1_ := Aside0.mk (below_step (by repeat (first | (with_reducible first | exact HB.out | apply below_alloc | apply pw_below_drewN | apply below_drew1) | exact HB.out)) hb); clear HB; have HO242 := n0_; have HB := n1_; clear n0_ n1_; (try clear hb); (try clear hb2); (try clear hk); (try clear hi); (try clear ho0)) | ((with_reducible refine gate_callee (f := 11) rfl ?_); refine goesL_ (some 19) rfl rfl Try.func11 (by kernel_rfl) rfl #[.string t236] rfl (by (try simp only [List.map_toArray, List.map_cons, List.map_nil]); first | done | rfl | (simp only [List.length_drop, List.length_take]; rfl)) ?_; (with_reducible refine (chartularyref23_Quoted.calls t236 t243 _ A5.out).mono ?_); rintro e w' ⟨rfl, ⟨nd, rfl⟩⟩; refine ⟨_, rfl, ?_⟩; obtain ⟨Ao25, co25, eo25⟩ := Kd.R_slice HO242.out; subst eo25))
        go_ret
        exact ⟨by first | rfl | (simp [errW_none, errW_some] <;> rfl) | (simp [*, errW_none, errW_some] <;> rfl), by repeat (first | (with_reducible first | exact HB.out | apply below_alloc | apply pw_below_drewN | apply below_drew1) | exact HB.out)⟩
    · rw [if_neg c7] at H
      have c7b0 : (t240 == 0) = false := beq_eq_false_iff_ne.mpr c7
      have c7b1 : (t240 != 0) = true := bne_iff_ne.mpr c7
      obtain rfl := Option.some.inj H
      go_enter Try.func3, Try.ntmps3
      go_wp2_with (first | ((with_reducible refine gate_callee (f := 8) rfl ?_); refine goesL_ (some 8) rfl rfl Try.func8 (by kernel_rfl) rfl #[.string a0] rfl (by (try simp only [List.map_toArray, List.map_cons, List.map_nil]); first | done | rfl | (simp only [List.length_drop, List.length_take]; rfl)) ?_; (with_reducible refine (chartularylaw23_cut.calls a0 t236 _ A2.out).mono ?_); rintro e w' ⟨rfl, ⟨nd, rfl⟩⟩; refine ⟨_, rfl, ?_⟩) | ((with_reducible refine gate_callee (f := 9) rfl ?_); refine goesL_ (some 10) rfl rfl Try.func9 (by kernel_rfl) rfl #[.string t236] rfl (by (try simp only [List.map_toArray, List.map_cons, List.map_nil]); first | done | rfl | (simp only [List.length_drop, List.length_take]; rfl)) ?_; (with_reducible refine (say_Quoted.calls t236 t237 _ A3.out).mono ?_); rintro e w26 ⟨rfl, hb⟩; refine ⟨_, rfl, ?_⟩; have n0_ := Aside0.mk (below_step (by repeat (first | (with_reducible first | exact HB.out | apply below_alloc | apply pw_below_drewN | apply below_drew1) | exact HB.out)) hb); clear HB; have HB := n0_; clear n0_; (try clear hb); (try clear hb2); (try clear hk); (try clear hi)) | ((with_reducible refine gate_callee (f := 10) rfl ?_); refine goesL_ (some 13) rfl rfl Try.func10 (by kernel_rfl) rfl #[.string t237] rfl (by (try simp only [List.map_toArray, List.map_cons, List.map_nil]); first | done | rfl | (simp only [List.length_drop, List.length_take]; rfl)) ?_; (with_reducible refine (say_Tokens.calls t237 t238 t239 t240 _ A4.out).mono ?_); rintro e w27 ⟨v241, rfl, ho0, hb⟩; refine ⟨_, rfl, ?_⟩; have n0_ := Aside0.mk (Kd.R_lower ho0 (below_size (by repeat (first | (with_reducible first | exact HB.out | apply below_alloc | apply pw_below_drewN | apply below_drew1) | exact HB.out)))); have n1_ := Aside0.mk (below_step (by repeat (first | (with_reducible first | exact HB.out | apply below_alloc | apply pw_below_drewN | apply below_drew1) | exact HB.out)) hb); clear HB; have HO242 := n0_; have HB := n1_; clear n0_ n1_; (try clear hb); (try clear hb2); (try clear hk); (try clear hi); (try clear ho0)) | ((with_reducible refine gate_callee (f := 11) rfl ?_); refine goesL_ (some 19) rfl rfl Try.func11 (by kernel_rfl) rfl #[.string t236] rfl (by (try simp only [List.map_toArray, List.map_cons, List.map_nil]); first | done | rfl | (simp only [List.length_drop, List.length_take]; rfl)) ?_; (with_reducible refine (chartularyref23_Quoted.calls t236 t243 _ A5.out).mono ?_); rintro e w' ⟨rfl, ⟨nd, rfl⟩⟩; refine ⟨_, rfl, ?_⟩))
      go_ret
      exact ⟨by first | rfl | (simp [errW_none, errW_some] <;> rfl) | (simp [*, errW_none, errW_some] <;> rfl), by repeat (first | (with_reducible first | exact HB.out | apply below_alloc | apply pw_below_drewN | apply below_drew1) | exact HB.out)⟩
  · rw [if_neg c6] at H
    have c6b0 : (t237.toList == t243.toList) = false := beq_eq_false_iff_ne.mpr c6
    have c6b1 : (t237.toList != t243.toList) = true := bne_iff_ne.mpr c6
    obtain rfl := Option.some.inj H
    go_enter Try.func3, Try.ntmps3
    go_wp2_with (first | ((with_reducible refine gate_callee (f := 8) rfl ?_); refine goesL_ (some 8) rfl rfl Try.func8 (by kernel_rfl) rfl #[.string a0] rfl (by (try simp only [List.map_toArray, List.map_cons, List.map_nil]); first | done | rfl | (simp only [List.length_drop, List.length_take]; rfl)) ?_; (with_reducible refine (chartularylaw23_cut.calls a0 t236 _ A2.out).mono ?_); rintro e w' ⟨rfl, ⟨nd, rfl⟩⟩; refine ⟨_, rfl, ?_⟩) | ((with_reducible refine gate_callee (f := 9) rfl ?_); refine goesL_ (some 10) rfl rfl Try.func9 (by kernel_rfl) rfl #[.string t236] rfl (by (try simp only [List.map_toArray, List.map_cons, List.map_nil]); first | done | rfl | (simp only [List.length_drop, List.length_take]; rfl)) ?_; (with_reducible refine (say_Quoted.calls t236 t237 _ A3.out).mono ?_); rintro e w28 ⟨rfl, hb⟩; refine ⟨_, rfl, ?_⟩; have n0_ := Aside0.mk (below_step (by repeat (first | (with_reducible first | exact HB.out | apply below_alloc | apply pw_below_drewN | apply below_drew1) | exact HB.out)) hb); clear HB; have HB := n0_; clear n0_; (try clear hb); (try clear hb2); (try clear hk); (try clear hi)) | ((with_reducible refine gate_callee (f := 10) rfl ?_); refine goesL_ (some 13) rfl rfl Try.func10 (by kernel_rfl) rfl #[.string t237] rfl (by (try simp only [List.map_toArray, List.map_cons, List.map_nil]); first | done | rfl | (simp only [List.length_drop, List.length_take]; rfl)) ?_; (with_reducible refine (say_Tokens.calls t237 t238 t239 t240 _ A4.out).mono ?_); rintro e w29 ⟨v241, rfl, ho0, hb⟩; refine ⟨_, rfl, ?_⟩; have n0_ := Aside0.mk (Kd.R_lower ho0 (below_size (by repeat (first | (with_reducible first | exact HB.out | apply below_alloc | apply pw_below_drewN | apply below_drew1) | exact HB.out)))); have n1_ := Aside0.mk (below_step (by repeat (first | (with_reducible first | exact HB.out | apply below_alloc | apply pw_below_drewN | apply below_drew1) | exact HB.out)) hb); clear HB; have HO242 := n0_; have HB := n1_; clear n0_ n1_; (try clear hb); (try clear hb2); (try clear hk); (try clear hi); (try clear ho0)) | ((with_reducible refine gate_callee (f := 11) rfl ?_); refine goesL_ (some 19) rfl rfl Try.func11 (by kernel_rfl) rfl #[.string t236] rfl (by (try simp only [List.map_toArray, List.map_cons, List.map_nil]); first | done | rfl | (simp only [List.length_drop, List.length_take]; rfl)) ?_; (with_reducible refine (chartularyref23_Quoted.calls t236 t243 _ A5.out).mono ?_); rintro e w' ⟨rfl, ⟨nd, rfl⟩⟩; refine ⟨_, rfl, ?_⟩))
    go_ret
    exact ⟨by first | rfl | (simp [errW_none, errW_some] <;> rfl) | (simp [*, errW_none, errW_some] <;> rfl), by repeat (first | (with_reducible first | exact HB.out | apply below_alloc | apply pw_below_drewN | apply below_drew1) | exact HB.out)⟩

/-- THE ONE PURE STATEMENT of chartularylaw23_SayQuotes: yours. -/
def chartularylaw23_SayQuotes.Pure : Prop := ∀ (a0 : ByteArray), a0.size ≤ 140737488351232 → ∃ k, chartularylaw23_SayQuotes.f k a0 = some true
theorem chartularylaw23_SayQuotes.walk (P : chartularylaw23_SayQuotes.Pure) (a0 : ByteArray) (w : World) (w0 : a0.size ≤ 140737488351232) :
    Calls Try.prog 3 #[.string a0] w fun e w' => e = .returned (.bool true) ∧ Below w.heap.size w w' := by
  obtain ⟨k, h⟩ := P a0 w0
  refine (chartularylaw23_SayQuotes.calls k a0 true w h).mono ?_
  rintro e w' ⟨rfl, hd⟩
  exact ⟨rfl, hd⟩

end Go.Proofs.Ytokkjnfdfbpphaa.A
namespace Go.Proofs.Ytokkjnfdfbpphaa.A
open Go.RowKit Go.Proofs.YtokkjnfdfbpphaaW.PrintWords Go.Proofs.YtokkjnfdfbpphaaW.PrintLast Go.Proofs.YtokkjnfdfbpphaaW.PrintMore
attribute [local go_sem] max2_int min2_int max_two min_two max_three min_three max_four min_four   -- for this text's walks alone
set_option linter.unusedVariables false
set_option linter.unusedSimpArgs false

theorem cut_some (a0 : ByteArray) : ∃ t : ByteArray, chartularylaw23_cut.f a0 = some t ∧ t.size ≤ 500 := by
  unfold chartularylaw23_cut.f
  by_cases h : (a0.size : Int) > 500
  · rw [if_pos h, if_pos (by decide), if_pos (by omega)]
    exact ⟨_, rfl, by simp; omega⟩
  · rw [if_neg h]; exact ⟨_, rfl, by omega⟩
theorem tokens_quote (t : ByteArray) (h : t.size ≤ 500) : say_Tokens.f ⟨(quoted t.data.toList).toArray⟩ = some ([⟨2, t, 0⟩], 0, 0) := by
  have hl := quoted_le t.data.toList
  have ht : t.data.toList.length = t.size := by simp
  have hs : (⟨(quoted t.data.toList).toArray⟩ : ByteArray).size = (quoted t.data.toList).length := by show Array.size _ = _; simp
  unfold say_Tokens.f
  rw [if_pos (by rw [hs]; omega), lexed_list]
  have hq := tok_quote t.data.toList []
  rw [List.append_nil] at hq
  have hb : blankLen false (quoted t.data.toList) = 0 := by unfold quoted blankLen; rw [if_neg (by decide), if_neg (by decide)]
  have hne : quoted t.data.toList ≠ [] := by unfold quoted; simp
  have he : lexL ((⟨(quoted t.data.toList).toArray⟩ : ByteArray).size + 1) (quoted t.data.toList) 0 = .ok [⟨2, t, 0⟩] := by
    have hn : (quoted t.data.toList).length ≠ 0 := by simpa using hne
    obtain ⟨m, hm⟩ : ∃ m, (⟨(quoted t.data.toList).toArray⟩ : ByteArray).size + 1 = m + 1 + 1 := ⟨(quoted t.data.toList).length - 1, by rw [hs]; omega⟩
    rw [hm, lexL, hb, List.drop_zero, if_neg hne, hq]
    dsimp only
    rw [show List.drop (0 + (quoted t.data.toList).length) (quoted t.data.toList) = [] from List.drop_eq_nil_of_le (by simp), show lexL (m + 1) [] (0 + 0 + (quoted t.data.toList).length) = .ok [] from rfl]
    rfl
  show (match lexL _ (quoted t.data.toList) 0 with | .ok l => some (l, (0 : Int), (0 : Int)) | .error p => some ([], (p : Int), 4)) = _
  rw [he]
theorem sayQuotes_pure : chartularylaw23_SayQuotes.Pure := by
  intro a0 _
  refine ⟨40, ?_⟩
  obtain ⟨t, ht, hs⟩ := cut_some a0
  unfold chartularylaw23_SayQuotes.f
  rw [ht]
  show ((say_Quoted.f t).bind _) = _
  have e1 : say_Quoted.f t = some ⟨(quoted t.data.toList).toArray⟩ := by unfold say_Quoted.f; rw [if_pos (by omega)]
  have e2 : chartularyref23_Quoted.f t = some ⟨(quoted t.data.toList).toArray⟩ := by unfold chartularyref23_Quoted.f; rw [if_pos (by omega)]
  rw [e1]
  show ((say_Tokens.f _).bind _) = _
  rw [tokens_quote t hs]
  show ((chartularyref23_Quoted.f t).bind _) = _
  rw [e2, awake_true]
  simp [rd_T28]

end Go.Proofs.Ytokkjnfdfbpphaa.A
