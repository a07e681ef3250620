/- The functions that this claim's statement reaches, each with what it computes and the proof that it does. -/
import Derived.Test.YtokkjnfdfbpphaaV2
namespace Go.Proofs.Ytokkjnfdfbpphaa.A
open Go.RowKit Go.Proofs.YtokkjnfdfbpphaaW.PrintWords Go.Proofs.YtokkjnfdfbpphaaW.PrintLast Go.Proofs.YtokkjnfdfbpphaaW.PrintMore
attribute [local go_sem] max2_int min2_int max_two min_two max_three min_three max_four min_four   -- for this text's walks alone
set_option linter.unusedVariables false
set_option linter.unusedSimpArgs false

/-! ### chartularylaw23_awake: function 12 -/
def chartularylaw23_awake.f (k : Nat)  : Option (Bool) := (say_Script.f k (⟨#[116, 105, 99, 107, 32, 53, 59]⟩ : ByteArray)).bind fun bt224 => ((say_Script.f k (⟨#[116, 105, 99, 107, 32, 45, 48, 59]⟩ : ByteArray)).bind fun bt229 => (if bt224.2.2 = 0 then (if (bt224.1.length : Int) = 1 then (if 0 < (bt224.1.length : Int) then (if ((rd_T45 bt224.1 0).f0) = 8 then (if ((rd_T45 bt224.1 0).f6) = 5 then (if bt229.2.2 = 4 then (some (bt229.2.1 == 5)) else (some false)) else (some false)) else (some false)) else (none)) else (some false)) else (some false)))
theorem chartularylaw23_awake.mono : ∀ k, LeO (chartularylaw23_awake.f k ) (chartularylaw23_awake.f (k + 1) ) := by
  intro  k
  unfold chartularylaw23_awake.f
  repeat' first
      | (with_reducible exact say_Script.mono _ _)
      | (with_reducible exact LeO.refl _)
      | (with_reducible exact LeO.none _)
      | (with_reducible refine LeO.ite ?_ ?_)
      | (with_reducible refine LeO.bind ?_ (fun _ => ?_))
      | exact say_Script.mono _ _
      | exact LeO.none _
      | refine LeO.ite ?_ ?_
      | refine LeO.bind ?_ (fun _ => ?_)
set_option maxHeartbeats 8000000 in
set_option maxRecDepth 100000 in
theorem chartularylaw23_awake.calls (k : Nat)  (r : Bool) (w : World) (h : chartularylaw23_awake.f k  = some r) :
    Calls Try.prog 12 #[] w fun e w' => e = .returned (.bool r) ∧ Below w.heap.size w w' := by
  have HB := Aside0.mk (Below.refl w.heap.size w)
  have H : ((say_Script.f k (⟨#[116, 105, 99, 107, 32, 53, 59]⟩ : ByteArray)).bind fun bt224 => ((say_Script.f k (⟨#[116, 105, 99, 107, 32, 45, 48, 59]⟩ : ByteArray)).bind fun bt229 => (if bt224.2.2 = 0 then (if (bt224.1.length : Int) = 1 then (if 0 < (bt224.1.length : Int) then (if ((rd_T45 bt224.1 0).f0) = 8 then (if ((rd_T45 bt224.1 0).f6) = 5 then (if bt229.2.2 = 4 then (some (bt229.2.1 == 5)) else (some false)) else (some false)) else (some false)) else (none)) else (some false)) else (some false)))) = some r := h
  clear h
  replace H := Option.bind_eq_some_iff.mp H
  obtain ⟨⟨t224, t225, t226⟩, A10, H⟩ := H
  replace H : ((say_Script.f k (⟨#[116, 105, 99, 107, 32, 45, 48, 59]⟩ : ByteArray)).bind fun bt229 => (if t226 = 0 then (if (t224.length : Int) = 1 then (if 0 < (t224.length : Int) then (if ((rd_T45 t224 0).f0) = 8 then (if ((rd_T45 t224 0).f6) = 5 then (if bt229.2.2 = 4 then (some (bt229.2.1 == 5)) else (some false)) else (some false)) else (some false)) else (none)) else (some false)) else (some false))) = some r := H
  have A1 := Aside0.mk A10
  clear A10
  replace H := Option.bind_eq_some_iff.mp H
  obtain ⟨⟨t229, t230, t231⟩, A20, H⟩ := H
  replace H : (if t226 = 0 then (if (t224.length : Int) = 1 then (if 0 < (t224.length : Int) then (if ((rd_T45 t224 0).f0) = 8 then (if ((rd_T45 t224 0).f6) = 5 then (if t231 = 4 then (some (t230 == 5)) else (some false)) else (some false)) else (some false)) else (none)) else (some false)) else (some false)) = some r := H
  have A2 := Aside0.mk A20
  clear A20
  by_cases c3 : t226 = 0
  · rw [if_pos c3] at H
    have c3b0 : (t226 == 0) = true := beq_iff_eq.mpr c3
    have c3b1 : (t226 != 0) = false := bne_eq_false_iff_eq.mpr c3
    clear c3
    by_cases c4 : (t224.length : Int) = 1
    · rw [if_pos c4] at H
      have c4b0 : ((t224.length : Int) == 1) = true := beq_iff_eq.mpr c4
      have c4b1 : ((t224.length : Int) != 1) = false := bne_eq_false_iff_eq.mpr c4
      clear c4
      by_cases c5 : 0 < (t224.length : Int)
      · rw [if_pos c5] at H
        have c5b0 : decide (0 < (t224.length : Int)) = true := decide_eq_true c5
        have c5b1 : decide (0 < t224.length) = true := decide_eq_true (by omega)
        clear c5
        by_cases c6 : ((rd_T45 t224 0).f0) = 8
        · rw [if_pos c6] at H
          have c6b0 : (((rd_T45 t224 0).f0) == 8) = true := beq_iff_eq.mpr c6
          have c6b1 : (((rd_T45 t224 0).f0) != 8) = false := bne_eq_false_iff_eq.mpr c6
          clear c6
          by_cases c7 : ((rd_T45 t224 0).f6) = 5
          · rw [if_pos c7] at H
            have c7b0 : (((rd_T45 t224 0).f6) == 5) = true := beq_iff_eq.mpr c7
            have c7b1 : (((rd_T45 t224 0).f6) != 5) = false := bne_eq_false_iff_eq.mpr c7
            clear c7
            by_cases c8 : t231 = 4
            · rw [if_pos c8] at H
              have c8b0 : (t231 == 4) = true := beq_iff_eq.mpr c8
              have c8b1 : (t231 != 4) = false := bne_eq_false_iff_eq.mpr c8
              clear c8
              obtain rfl := Option.some.inj H
              go_enter Try.func12, Try.ntmps12
              go_wp2_with (first | ((with_reducible refine gate_callee (f := 19) rfl ?_); refine goesL_ (some 8) rfl rfl Try.func19 (by kernel_rfl) rfl #[.string (⟨#[116, 105, 99, 107, 32, 53, 59]⟩ : ByteArray)] rfl (by (try simp only [List.map_toArray, List.map_cons, List.map_nil]); first | done | rfl | (simp only [List.length_drop, List.length_take]; rfl)) ?_; (with_reducible refine (say_Script.calls k (⟨#[116, 105, 99, 107, 32, 53, 59]⟩ : ByteArray) t224 t225 t226 _ A1.out).mono ?_); rintro e w9 ⟨v227, rfl, ho0, hb⟩; refine ⟨_, rfl, ?_⟩; have n0_ := Aside0.mk (Kd.S_lower ho0 (below_size (by repeat (first | (with_reducible first | exact HB.out | apply below_alloc | apply pw_below_drewN | apply below_drew1) | exact HB.out)))); have n1_ := Aside0.mk (below_step (by repeat (first | (with_reducible first | exact HB.out | apply below_alloc | apply pw_below_drewN | apply below_drew1) | exact HB.out)) hb); clear HB; have HO228 := n0_; have HB := n1_; clear n0_ n1_; (try clear hb); (try clear hb2); (try clear hk); (try clear hi); (try clear ho0)) | ((with_reducible refine gate_callee (f := 19) rfl ?_); refine goesL_ (some 13) rfl rfl Try.func19 (by kernel_rfl) rfl #[.string (⟨#[116, 105, 99, 107, 32, 45, 48, 59]⟩ : ByteArray)] rfl (by (try simp only [List.map_toArray, List.map_cons, List.map_nil]); first | done | rfl | (simp only [List.length_drop, List.length_take]; rfl)) ?_; (with_reducible refine (say_Script.calls k (⟨#[116, 105, 99, 107, 32, 45, 48, 59]⟩ : ByteArray) t229 t230 t231 _ A2.out).mono ?_); rintro e w10 ⟨v232, rfl, ho0, hb⟩; refine ⟨_, rfl, ?_⟩; have n0_ := Aside0.mk (Kd.S_elder' (by (with_reducible repeat (first | apply Kd.S_alloc | apply Kd.S_drewN | apply Kd.S_drew)); exact HO228.out) (Kd.S_base ho0) hb); have n1_ := Aside0.mk (Kd.S_lower (Kd.S_new' ho0 (Kd.S_lt (by (with_reducible repeat (first | apply Kd.S_alloc | apply Kd.S_drewN | apply Kd.S_drew)); exact HO228.out))) (below_size (by repeat (first | (with_reducible first | exact HB.out | apply below_alloc | apply pw_below_drewN | apply below_drew1) | exact HB.out)))); have n2_ := Aside0.mk (below_step (by repeat (first | (with_reducible first | exact HB.out | apply below_alloc | apply pw_below_drewN | apply below_drew1) | exact HB.out)) hb); clear HO228; clear HB; have HO228 := n0_; have HO233 := n1_; have HB := n2_; clear n0_ n1_ n2_; (try clear hb); (try clear hb2); (try clear hk); (try clear hi); (try clear ho0); obtain ⟨Ao11, co11, eo11⟩ := Kd.S_slice HO228.out; subst eo11; have p234 : 0 ≤ (0 : Int) := (by omega); have q234 : 0 < (t224.length : Int) := of_decide_eq_true (by first | (with_reducible assumption) | assumption); obtain ⟨ad234, A234_3, c234_3, A234_6, c234_6, e234, hx234_0, hx234_1, hx234_2, hx234_3, hx234_4, hx234_5, hx234_6, hx234_7, hx234_8, hx234_9, hx234_10, hx234_11, hl234_3, hi234_3, hl234_6, hi234_6⟩ := at_T45 (Kd.S_reads' HO228.out).2.2 0 p234 q234; cases e234; obtain ⟨ce234, hce234, hMe234, hcc234⟩ := Kd.S_get HO228.out z45 0 p234 (by first | exact q234 | exact of_decide_eq_true (by first | (with_reducible assumption) | assumption) | (have e_ := (Kd.S_reads' HO228.out).1; omega)); obtain ⟨ve234_3, ve234_6, rfl, ge234_3, ge234_6⟩ := k45_openM hMe234; have hv234_3 := hcc234 3 _ rfl; rw [add_field _ _ 3 (by omega)] at hv234_3; replace hv234_3 := Option.some.inj (hv234_3.symm.trans hx234_3); rw [hv234_3] at ge234_3; have HL234_3 := Aside0.mk (show Kd.R k87 87 _ _ _ _ ((rd_T45 t224 0).f1.f2) from ge234_3); clear hv234_3 ge234_3; have hv234_6 := hcc234 6 _ rfl; rw [add_field _ _ 6 (by omega)] at hv234_6; replace hv234_6 := Option.some.inj (hv234_6.symm.trans hx234_6); rw [hv234_6] at ge234_6; have HL234_6 := Aside0.mk (show Kd.R Kd.string 9 _ _ _ _ ((rd_T45 t224 0).f4) from ge234_6); clear hv234_6 ge234_6; clear hcc234 hce234; have qi234 : (0 < t224.length) = True := eq_true (by omega); (try rw [show ((0 : Int)).toNat = 0 from rfl] at hx234_0); (try rw [show 0 * 12 = 0 from rfl] at hx234_0); (try rw [Addr.add_zero'] at hx234_0); (try rw [show ((0 : Int)).toNat = 0 from rfl] at hx234_1); (try rw [show 0 * 12 = 0 from rfl] at hx234_1); (try rw [Addr.add_zero'] at hx234_1); (try rw [show ((0 : Int)).toNat = 0 from rfl] at hx234_2); (try rw [show 0 * 12 = 0 from rfl] at hx234_2); (try rw [Addr.add_zero'] at hx234_2); (try rw [show ((0 : Int)).toNat = 0 from rfl] at hx234_3); (try rw [show 0 * 12 = 0 from rfl] at hx234_3); (try rw [Addr.add_zero'] at hx234_3); (try rw [show ((0 : Int)).toNat = 0 from rfl] at hx234_4); (try rw [show 0 * 12 = 0 from rfl] at hx234_4); (try rw [Addr.add_zero'] at hx234_4); (try rw [show ((0 : Int)).toNat = 0 from rfl] at hx234_5); (try rw [show 0 * 12 = 0 from rfl] at hx234_5); (try rw [Addr.add_zero'] at hx234_5); (try rw [show ((0 : Int)).toNat = 0 from rfl] at hx234_6); (try rw [show 0 * 12 = 0 from rfl] at hx234_6); (try rw [Addr.add_zero'] at hx234_6); (try rw [show ((0 : Int)).toNat = 0 from rfl] at hx234_7); (try rw [show 0 * 12 = 0 from rfl] at hx234_7); (try rw [Addr.add_zero'] at hx234_7); (try rw [show ((0 : Int)).toNat = 0 from rfl] at hx234_8); (try rw [show 0 * 12 = 0 from rfl] at hx234_8); (try rw [Addr.add_zero'] at hx234_8); (try rw [show ((0 : Int)).toNat = 0 from rfl] at hx234_9); (try rw [show 0 * 12 = 0 from rfl] at hx234_9); (try rw [Addr.add_zero'] at hx234_9); (try rw [show ((0 : Int)).toNat = 0 from rfl] at hx234_10); (try rw [show 0 * 12 = 0 from rfl] at hx234_10); (try rw [Addr.add_zero'] at hx234_10); (try rw [show ((0 : Int)).toNat = 0 from rfl] at hx234_11); (try rw [show 0 * 12 = 0 from rfl] at hx234_11); (try rw [Addr.add_zero'] at hx234_11); have HR234_3 := Aside0.mk hi234_3; have HC234_3 := Aside0.mk hl234_3; clear hi234_3 hl234_3; have HR234_6 := Aside0.mk hi234_6; have HC234_6 := Aside0.mk hl234_6; clear hi234_6 hl234_6; replace p234 := eq_true p234; replace q234 := eq_true q234; have p235 : 0 ≤ (0 : Int) := (by omega); have q235 : 0 < (t224.length : Int) := of_decide_eq_true (by first | (with_reducible assumption) | assumption); obtain ⟨ad235, A235_3, c235_3, A235_6, c235_6, e235, hx235_0, hx235_1, hx235_2, hx235_3, hx235_4, hx235_5, hx235_6, hx235_7, hx235_8, hx235_9, hx235_10, hx235_11, hl235_3, hi235_3, hl235_6, hi235_6⟩ := at_T45 (Kd.S_reads' HO228.out).2.2 0 p235 q235; obtain rfl : ad234 = ad235 := (by injection e235); obtain ⟨ce235, hce235, hMe235, hcc235⟩ := Kd.S_get HO228.out z45 0 p235 (by first | exact q235 | exact of_decide_eq_true (by first | (with_reducible assumption) | assumption) | (have e_ := (Kd.S_reads' HO228.out).1; omega)); obtain ⟨ve235_3, ve235_6, rfl, ge235_3, ge235_6⟩ := k45_openM hMe235; have hv235_3 := hcc235 3 _ rfl; rw [add_field _ _ 3 (by omega)] at hv235_3; replace hv235_3 := Option.some.inj (hv235_3.symm.trans hx235_3); rw [hv235_3] at ge235_3; have HL235_3 := Aside0.mk (show Kd.R k87 87 _ _ _ _ ((rd_T45 t224 0).f1.f2) from ge235_3); clear hv235_3 ge235_3; have hv235_6 := hcc235 6 _ rfl; rw [add_field _ _ 6 (by omega)] at hv235_6; replace hv235_6 := Option.some.inj (hv235_6.symm.trans hx235_6); rw [hv235_6] at ge235_6; have HL235_6 := Aside0.mk (show Kd.R Kd.string 9 _ _ _ _ ((rd_T45 t224 0).f4) from ge235_6); clear hv235_6 ge235_6; clear hcc235 hce235; have qi235 : (0 < t224.length) = True := eq_true (by omega); (try rw [show ((0 : Int)).toNat = 0 from rfl] at hx235_0); (try rw [show 0 * 12 = 0 from rfl] at hx235_0); (try rw [Addr.add_zero'] at hx235_0); (try rw [show ((0 : Int)).toNat = 0 from rfl] at hx235_1); (try rw [show 0 * 12 = 0 from rfl] at hx235_1); (try rw [Addr.add_zero'] at hx235_1); (try rw [show ((0 : Int)).toNat = 0 from rfl] at hx235_2); (try rw [show 0 * 12 = 0 from rfl] at hx235_2); (try rw [Addr.add_zero'] at hx235_2); (try rw [show ((0 : Int)).toNat = 0 from rfl] at hx235_3); (try rw [show 0 * 12 = 0 from rfl] at hx235_3); (try rw [Addr.add_zero'] at hx235_3); (try rw [show ((0 : Int)).toNat = 0 from rfl] at hx235_4); (try rw [show 0 * 12 = 0 from rfl] at hx235_4); (try rw [Addr.add_zero'] at hx235_4); (try rw [show ((0 : Int)).toNat = 0 from rfl] at hx235_5); (try rw [show 0 * 12 = 0 from rfl] at hx235_5); (try rw [Addr.add_zero'] at hx235_5); (try rw [show ((0 : Int)).toNat = 0 from rfl] at hx235_6); (try rw [show 0 * 12 = 0 from rfl] at hx235_6); (try rw [Addr.add_zero'] at hx235_6); (try rw [show ((0 : Int)).toNat = 0 from rfl] at hx235_7); (try rw [show 0 * 12 = 0 from rfl] at hx235_7); (try rw [Addr.add_zero'] at hx235_7); (try rw [show ((0 : Int)).toNat = 0 from rfl] at hx235_8); (try rw [show 0 * 12 = 0 from rfl] at hx235_8); (try rw [Addr.add_zero'] at hx235_8); (try rw [show ((0 : Int)).toNat = 0 from rfl] at hx235_9); (try rw [show 0 * 12 = 0 from rfl] at hx235_9); (try rw [Addr.add_zero'] at hx235_9); (try rw [show ((0 : Int)).toNat = 0 from rfl] at hx235_10); (try rw [show 0 * 12 = 0 from rfl] at hx235_10); (try rw [Addr.add_zero'] at hx235_10); (try rw [show ((0 : Int)).toNat = 0 from rfl] at hx235_11); (try rw [show 0 * 12 = 0 from rfl] at hx235_11); (try rw [Addr.add_zero'] at hx235_11); have HR235_3 := Aside0.mk hi235_3; have HC235_3 := Aside0.mk hl235_3; clear hi235_3 hl235_3; have HR235_6 := Aside0.mk hi235_6; have HC235_6 := Aside0.mk hl235_6; clear hi235_6 hl235_6; replace p235 := eq_true p235; replace q235 := eq_true q235; have ea_ := Option.some.inj (hx234_3.symm.trans hx235_3); injection ea_ with ea_ en_ ec_; subst ea_; subst ec_; clear en_; have ea_ := Option.some.inj (hx234_6.symm.trans hx235_6); injection ea_ with ea_ en_ ec_; subst ea_; subst ec_; clear en_))
              go_ret
              exact ⟨by first | rfl | (simp [errW_none, errW_some] <;> rfl) | (simp [*, errW_none, errW_some] <;> rfl), by repeat (first | (with_reducible first | exact HB.out | apply below_alloc | apply pw_below_drewN | apply below_drew1) | exact HB.out)⟩
            · rw [if_neg c8] at H
              have c8b0 : (t231 == 4) = false := beq_eq_false_iff_ne.mpr c8
              have c8b1 : (t231 != 4) = true := bne_iff_ne.mpr c8
              obtain rfl := Option.some.inj H
              go_enter Try.func12, Try.ntmps12
              go_wp2_with (first | ((with_reducible refine gate_callee (f := 19) rfl ?_); refine goesL_ (some 8) rfl rfl Try.func19 (by kernel_rfl) rfl #[.string (⟨#[116, 105, 99, 107, 32, 53, 59]⟩ : ByteArray)] rfl (by (try simp only [List.map_toArray, List.map_cons, List.map_nil]); first | done | rfl | (simp only [List.length_drop, List.length_take]; rfl)) ?_; (with_reducible refine (say_Script.calls k (⟨#[116, 105, 99, 107, 32, 53, 59]⟩ : ByteArray) t224 t225 t226 _ A1.out).mono ?_); rintro e w12 ⟨v227, rfl, ho0, hb⟩; refine ⟨_, rfl, ?_⟩; have n0_ := Aside0.mk (Kd.S_lower ho0 (below_size (by repeat (first | (with_reducible first | exact HB.out | apply below_alloc | apply pw_below_drewN | apply below_drew1) | exact HB.out)))); have n1_ := Aside0.mk (below_step (by repeat (first | (with_reducible first | exact HB.out | apply below_alloc | apply pw_below_drewN | apply below_drew1) | exact HB.out)) hb); clear HB; have HO228 := n0_; have HB := n1_; clear n0_ n1_; (try clear hb); (try clear hb2); (try clear hk); (try clear hi); (try clear ho0)) | ((with_reducible refine gate_callee (f := 19) rfl ?_); refine goesL_ (some 13) rfl rfl Try.func19 (by kernel_rfl) rfl #[.string (⟨#[116, 105, 99, 107, 32, 45, 48, 59]⟩ : ByteArray)] rfl (by (try simp only [List.map_toArray, List.map_cons, List.map_nil]); first | done | rfl | (simp only [List.length_drop, List.length_take]; rfl)) ?_; (with_reducible refine (say_Script.calls k (⟨#[116, 105, 99, 107, 32, 45, 48, 59]⟩ : ByteArray) t229 t230 t231 _ A2.out).mono ?_); rintro e w13 ⟨v232, rfl, ho0, hb⟩; refine ⟨_, rfl, ?_⟩; have n0_ := Aside0.mk (Kd.S_elder' (by (with_reducible repeat (first | apply Kd.S_alloc | apply Kd.S_drewN | apply Kd.S_drew)); exact HO228.out) (Kd.S_base ho0) hb); have n1_ := Aside0.mk (Kd.S_lower (Kd.S_new' ho0 (Kd.S_lt (by (with_reducible repeat (first | apply Kd.S_alloc | apply Kd.S_drewN | apply Kd.S_drew)); exact HO228.out))) (below_size (by repeat (first | (with_reducible first | exact HB.out | apply below_alloc | apply pw_below_drewN | apply below_drew1) | exact HB.out)))); have n2_ := Aside0.mk (below_step (by repeat (first | (with_reducible first | exact HB.out | apply below_alloc | apply pw_below_drewN | apply below_drew1) | exact HB.out)) hb); clear HO228; clear HB; have HO228 := n0_; have HO233 := n1_; have HB := n2_; clear n0_ n1_ n2_; (try clear hb); (try clear hb2); (try clear hk); (try clear hi); (try clear ho0); obtain ⟨Ao14, co14, eo14⟩ := Kd.S_slice HO228.out; subst eo14; have p234 : 0 ≤ (0 : Int) := (by omega); have q234 : 0 < (t224.length : Int) := of_decide_eq_true (by first | (with_reducible assumption) | assumption); obtain ⟨ad234, A234_3, c234_3, A234_6, c234_6, e234, hx234_0, hx234_1, hx234_2, hx234_3, hx234_4, hx234_5, hx234_6, hx234_7, hx234_8, hx234_9, hx234_10, hx234_11, hl234_3, hi234_3, hl234_6, hi234_6⟩ := at_T45 (Kd.S_reads' HO228.out).2.2 0 p234 q234; cases e234; obtain ⟨ce234, hce234, hMe234, hcc234⟩ := Kd.S_get HO228.out z45 0 p234 (by first | exact q234 | exact of_decide_eq_true (by first | (with_reducible assumption) | assumption) | (have e_ := (Kd.S_reads' HO228.out).1; omega)); obtain ⟨ve234_3, ve234_6, rfl, ge234_3, ge234_6⟩ := k45_openM hMe234; have hv234_3 := hcc234 3 _ rfl; rw [add_field _ _ 3 (by omega)] at hv234_3; replace hv234_3 := Option.some.inj (hv234_3.symm.trans hx234_3); rw [hv234_3] at ge234_3; have HL234_3 := Aside0.mk (show Kd.R k87 87 _ _ _ _ ((rd_T45 t224 0).f1.f2) from ge234_3); clear hv234_3 ge234_3; have hv234_6 := hcc234 6 _ rfl; rw [add_field _ _ 6 (by omega)] at hv234_6; replace hv234_6 := Option.some.inj (hv234_6.symm.trans hx234_6); rw [hv234_6] at ge234_6; have HL234_6 := Aside0.mk (show Kd.R Kd.string 9 _ _ _ _ ((rd_T45 t224 0).f4) from ge234_6); clear hv234_6 ge234_6; clear hcc234 hce234; have qi234 : (0 < t224.length) = True := eq_true (by omega); (try rw [show ((0 : Int)).toNat = 0 from rfl] at hx234_0); (try rw [show 0 * 12 = 0 from rfl] at hx234_0); (try rw [Addr.add_zero'] at hx234_0); (try rw [show ((0 : Int)).toNat = 0 from rfl] at hx234_1); (try rw [show 0 * 12 = 0 from rfl] at hx234_1); (try rw [Addr.add_zero'] at hx234_1); (try rw [show ((0 : Int)).toNat = 0 from rfl] at hx234_2); (try rw [show 0 * 12 = 0 from rfl] at hx234_2); (try rw [Addr.add_zero'] at hx234_2); (try rw [show ((0 : Int)).toNat = 0 from rfl] at hx234_3); (try rw [show 0 * 12 = 0 from rfl] at hx234_3); (try rw [Addr.add_zero'] at hx234_3); (try rw [show ((0 : Int)).toNat = 0 from rfl] at hx234_4); (try rw [show 0 * 12 = 0 from rfl] at hx234_4); (try rw [Addr.add_zero'] at hx234_4); (try rw [show ((0 : Int)).toNat = 0 from rfl] at hx234_5); (try rw [show 0 * 12 = 0 from rfl] at hx234_5); (try rw [Addr.add_zero'] at hx234_5); (try rw [show ((0 : Int)).toNat = 0 from rfl] at hx234_6); (try rw [show 0 * 12 = 0 from rfl] at hx234_6); (try rw [Addr.add_zero'] at hx234_6); (try rw [show ((0 : Int)).toNat = 0 from rfl] at hx234_7); (try rw [show 0 * 12 = 0 from rfl] at hx234_7); (try rw [Addr.add_zero'] at hx234_7); (try rw [show ((0 : Int)).toNat = 0 from rfl] at hx234_8); (try rw [show 0 * 12 = 0 from rfl] at hx234_8); (try rw [Addr.add_zero'] at hx234_8); (try rw [show ((0 : Int)).toNat = 0 from rfl] at hx234_9); (try rw [show 0 * 12 = 0 from rfl] at hx234_9); (try rw [Addr.add_zero'] at hx234_9); (try rw [show ((0 : Int)).toNat = 0 from rfl] at hx234_10); (try rw [show 0 * 12 = 0 from rfl] at hx234_10); (try rw [Addr.add_zero'] at hx234_10); (try rw [show ((0 : Int)).toNat = 0 from rfl] at hx234_11); (try rw [show 0 * 12 = 0 from rfl] at hx234_11); (try rw [Addr.add_zero'] at hx234_11); have HR234_3 := Aside0.mk hi234_3; have HC234_3 := Aside0.mk hl234_3; clear hi234_3 hl234_3; have HR234_6 := Aside0.mk hi234_6; have HC234_6 := Aside0.mk hl234_6; clear hi234_6 hl234_6; replace p234 := eq_true p234; replace q234 := eq_true q234; have p235 : 0 ≤ (0 : Int) := (by omega); have q235 : 0 < (t224.length : Int) := of_decide_eq_true (by first | (with_reducible assumption) | assumption); obtain ⟨ad235, A235_3, c235_3, A235_6, c235_6, e235, hx235_0, hx235_1, hx235_2, hx235_3, hx235_4, hx235_5, hx235_6, hx235_7, hx235_8, hx235_9, hx235_10, hx235_11, hl235_3, hi235_3, hl235_6, hi235_6⟩ := at_T45 (Kd.S_reads' HO228.out).2.2 0 p235 q235; obtain rfl : ad234 = ad235 := (by injection e235); obtain ⟨ce235, hce235, hMe235, hcc235⟩ := Kd.S_get HO228.out z45 0 p235 (by first | exact q235 | exact of_decide_eq_true (by first | (with_reducible assumption) | assumption) | (have e_ := (Kd.S_reads' HO228.out).1; omega)); obtain ⟨ve235_3, ve235_6, rfl, ge235_3, ge235_6⟩ := k45_openM hMe235; have hv235_3 := hcc235 3 _ rfl; rw [add_field _ _ 3 (by omega)] at hv235_3; replace hv235_3 := Option.some.inj (hv235_3.symm.trans hx235_3); rw [hv235_3] at ge235_3; have HL235_3 := Aside0.mk (show Kd.R k87 87 _ _ _ _ ((rd_T45 t224 0).f1.f2) from ge235_3); clear hv235_3 ge235_3; have hv235_6 := hcc235 6 _ rfl; rw [add_field _ _ 6 (by omega)] at hv235_6; replace hv235_6 := Option.some.inj (hv235_6.symm.trans hx235_6); rw [hv235_6] at ge235_6; have HL235_6 := Aside0.mk (show Kd.R Kd.string 9 _ _ _ _ ((rd_T45 t224 0).f4) from ge235_6); clear hv235_6 ge235_6; clear hcc235 hce235; have qi235 : (0 < t224.length) = True := eq_true (by omega); (try rw [show ((0 : Int)).toNat = 0 from rfl] at hx235_0); (try rw [show 0 * 12 = 0 from rfl] at hx235_0); (try rw [Addr.add_zero'] at hx235_0); (try rw [show ((0 : Int)).toNat = 0 from rfl] at hx235_1); (try rw [show 0 * 12 = 0 from rfl] at hx235_1); (try rw [Addr.add_zero'] at hx235_1); (try rw [show ((0 : Int)).toNat = 0 from rfl] at hx235_2); (try rw [show 0 * 12 = 0 from rfl] at hx235_2); (try rw [Addr.add_zero'] at hx235_2); (try rw [show ((0 : Int)).toNat = 0 from rfl] at hx235_3); (try rw [show 0 * 12 = 0 from rfl] at hx235_3); (try rw [Addr.add_zero'] at hx235_3); (try rw [show ((0 : Int)).toNat = 0 from rfl] at hx235_4); (try rw [show 0 * 12 = 0 from rfl] at hx235_4); (try rw [Addr.add_zero'] at hx235_4); (try rw [show ((0 : Int)).toNat = 0 from rfl] at hx235_5); (try rw [show 0 * 12 = 0 from rfl] at hx235_5); (try rw [Addr.add_zero'] at hx235_5); (try rw [show ((0 : Int)).toNat = 0 from rfl] at hx235_6); (try rw [show 0 * 12 = 0 from rfl] at hx235_6); (try rw [Addr.add_zero'] at hx235_6); (try rw [show ((0 : Int)).toNat = 0 from rfl] at hx235_7); (try rw [show 0 * 12 = 0 from rfl] at hx235_7); (try rw [Addr.add_zero'] at hx235_7); (try rw [show ((0 : Int)).toNat = 0 from rfl] at hx235_8); (try rw [show 0 * 12 = 0 from rfl] at hx235_8); (try rw [Addr.add_zero'] at hx235_8); (try rw [show ((0 : Int)).toNat = 0 from rfl] at hx235_9); (try rw [show 0 * 12 = 0 from rfl] at hx235_9); (try rw [Addr.add_zero'] at hx235_9); (try rw [show ((0 : Int)).toNat = 0 from rfl] at hx235_10); (try rw [show 0 * 12 = 0 from rfl] at hx235_10); (try rw [Addr.add_zero'] at hx235_10); (try rw [show ((0 : Int)).toNat = 0 from rfl] at hx235_11); (try rw [show 0 * 12 = 0 from rfl] at hx235_11); (try rw [Addr.add_zero'] at hx235_11); have HR235_3 := Aside0.mk hi235_3; have HC235_3 := Aside0.mk hl235_3; clear hi235_3 hl235_3; have HR235_6 := Aside0.mk hi235_6; have HC235_6 := Aside0.mk hl235_6; clear hi235_6 hl235_6; replace p235 := eq_true p235; replace q235 := eq_true q235; have ea_ := Option.some.inj (hx234_3.symm.trans hx235_3); injection ea_ with ea_ en_ ec_; subst ea_; subst ec_; clear en_; have ea_ := Option.some.inj (hx234_6.symm.trans hx235_6); injection ea_ with ea_ en_ ec_; subst ea_; subst ec_; clear en_))
              go_ret
              exact ⟨by first | rfl | (simp [errW_none, errW_some] <;> rfl) | (simp [*, errW_none, errW_some] <;> rfl), by repeat (first | (with_reducible first | exact HB.out | apply below_alloc | apply pw_below_drewN | apply below_drew1) | exact HB.out)⟩
          · rw [if_neg c7] at H
            have c7b0 : (((rd_T45 t224 0).f6) == 5) = false := beq_eq_false_iff_ne.mpr c7
            have c7b1 : (((rd_T45 t224 0).f6) != 5) = true := bne_iff_ne.mpr c7
            obtain rfl := Option.some.inj H
            go_enter Try.func12, Try.ntmps12
            go_wp2_with (first | ((with_reducible refine gate_callee (f := 19) rfl ?_); refine goesL_ (some 8) rfl rfl Try.func19 (by kernel_rfl) rfl #[.string (⟨#[116, 105, 99, 107, 32, 53, 59]⟩ : ByteArray)] rfl (by (try simp only [List.map_toArray, List.map_cons, List.map_nil]); first | done | rfl | (simp only [List.length_drop, List.length_take]; rfl)) ?_; (with_reducible refine (say_Script.calls k (⟨#[116, 105, 99, 107, 32, 53, 59]⟩ : ByteArray) t224 t225 t226 _ A1.out).mono ?_); rintro e w15 ⟨v227, rfl, ho0, hb⟩; refine ⟨_, rfl, ?_⟩; have n0_ := Aside0.mk (Kd.S_lower ho0 (below_size (by repeat (first | (with_reducible first | exact HB.out | apply below_alloc | apply pw_below_drewN | apply below_drew1) | exact HB.out)))); have n1_ := Aside0.mk (below_step (by repeat (first | (with_reducible first | exact HB.out | apply below_alloc | apply pw_below_drewN | apply below_drew1) | exact HB.out)) hb); clear HB; have HO228 := n0_; have HB := n1_; clear n0_ n1_; (try clear hb); (try clear hb2); (try clear hk); (try clear hi); (try clear ho0)) | ((with_reducible refine gate_callee (f := 19) rfl ?_); refine goesL_ (some 13) rfl rfl Try.func19 (by kernel_rfl) rfl #[.string (⟨#[116, 105, 99, 107, 32, 45, 48, 59]⟩ : ByteArray)] rfl (by (try simp only [List.map_toArray, List.map_cons, List.map_nil]); first | done | rfl | (simp only [List.length_drop, List.length_take]; rfl)) ?_; (with_reducible refine (say_Script.calls k (⟨#[116, 105, 99, 107, 32, 45, 48, 59]⟩ : ByteArray) t229 t230 t231 _ A2.out).mono ?_); rintro e w16 ⟨v232, rfl, ho0, hb⟩; refine ⟨_, rfl, ?_⟩; have n0_ := Aside0.mk (Kd.S_elder' (by (with_reducible repeat (first | apply Kd.S_alloc | apply Kd.S_drewN | apply Kd.S_drew)); exact HO228.out) (Kd.S_base ho0) hb); have n1_ := Aside0.mk (Kd.S_lower (Kd.S_new' ho0 (Kd.S_lt (by (with_reducible repeat (first | apply Kd.S_alloc | apply Kd.S_drewN | apply Kd.S_drew)); exact HO228.out))) (below_size (by repeat (first | (with_reducible first | exact HB.out | apply below_alloc | apply pw_below_drewN | apply below_drew1) | exact HB.out)))); have n2_ := Aside0.mk (below_step (by repeat (first | (with_reducible first | exact HB.out | apply below_alloc | apply pw_below_drewN | apply below_drew1) | exact HB.out)) hb); clear HO228; clear HB; have HO228 := n0_; have HO233 := n1_; have HB := n2_; clear n0_ n1_ n2_; (try clear hb); (try clear hb2); (try clear hk); (try clear hi); (try clear ho0); obtain ⟨Ao17, co17, eo17⟩ := Kd.S_slice HO228.out; subst eo17; have p234 : 0 ≤ (0 : Int) := (by omega); have q234 : 0 < (t224.length : Int) := of_decide_eq_true (by first | (with_reducible assumption) | assumption); obtain ⟨ad234, A234_3, c234_3, A234_6, c234_6, e234, hx234_0, hx234_1, hx234_2, hx234_3, hx234_4, hx234_5, hx234_6, hx234_7, hx234_8, hx234_9, hx234_10, hx234_11, hl234_3, hi234_3, hl234_6, hi234_6⟩ := at_T45 (Kd.S_reads' HO228.out).2.2 0 p234 q234; cases e234; obtain ⟨ce234, hce234, hMe234, hcc234⟩ := Kd.S_get HO228.out z45 0 p234 (by first | exact q234 | exact of_decide_eq_true (by first | (with_reducible assumption) | assumption) | (have e_ := (Kd.S_reads' HO228.out).1; omega)); obtain ⟨ve234_3, ve234_6, rfl, ge234_3, ge234_6⟩ := k45_openM hMe234; have hv234_3 := hcc234 3 _ rfl; rw [add_field _ _ 3 (by omega)] at hv234_3; replace hv234_3 := Option.some.inj (hv234_3.symm.trans hx234_3); rw [hv234_3] at ge234_3; have HL234_3 := Aside0.mk (show Kd.R k87 87 _ _ _ _ ((rd_T45 t224 0).f1.f2) from ge234_3); clear hv234_3 ge234_3; have hv234_6 := hcc234 6 _ rfl; rw [add_field _ _ 6 (by omega)] at hv234_6; replace hv234_6 := Option.some.inj (hv234_6.symm.trans hx234_6); rw [hv234_6] at ge234_6; have HL234_6 := Aside0.mk (show Kd.R Kd.string 9 _ _ _ _ ((rd_T45 t224 0).f4) from ge234_6); clear hv234_6 ge234_6; clear hcc234 hce234; have qi234 : (0 < t224.length) = True := eq_true (by omega); (try rw [show ((0 : Int)).toNat = 0 from rfl] at hx234_0); (try rw [show 0 * 12 = 0 from rfl] at hx234_0); (try rw [Addr.add_zero'] at hx234_0); (try rw [show ((0 : Int)).toNat = 0 from rfl] at hx234_1); (try rw [show 0 * 12 = 0 from rfl] at hx234_1); (try rw [Addr.add_zero'] at hx234_1); (try rw [show ((0 : Int)).toNat = 0 from rfl] at hx234_2); (try rw [show 0 * 12 = 0 from rfl] at hx234_2); (try rw [Addr.add_zero'] at hx234_2); (try rw [show ((0 : Int)).toNat = 0 from rfl] at hx234_3); (try rw [show 0 * 12 = 0 from rfl] at hx234_3); (try rw [Addr.add_zero'] at hx234_3); (try rw [show ((0 : Int)).toNat = 0 from rfl] at hx234_4); (try rw [show 0 * 12 = 0 from rfl] at hx234_4); (try rw [Addr.add_zero'] at hx234_4); (try rw [show ((0 : Int)).toNat = 0 from rfl] at hx234_5); (try rw [show 0 * 12 = 0 from rfl] at hx234_5); (try rw [Addr.add_zero'] at hx234_5); (try rw [show ((0 : Int)).toNat = 0 from rfl] at hx234_6); (try rw [show 0 * 12 = 0 from rfl] at hx234_6); (try rw [Addr.add_zero'] at hx234_6); (try rw [show ((0 : Int)).toNat = 0 from rfl] at hx234_7); (try rw [show 0 * 12 = 0 from rfl] at hx234_7); (try rw [Addr.add_zero'] at hx234_7); (try rw [show ((0 : Int)).toNat = 0 from rfl] at hx234_8); (try rw [show 0 * 12 = 0 from rfl] at hx234_8); (try rw [Addr.add_zero'] at hx234_8); (try rw [show ((0 : Int)).toNat = 0 from rfl] at hx234_9); (try rw [show 0 * 12 = 0 from rfl] at hx234_9); (try rw [Addr.add_zero'] at hx234_9); (try rw [show ((0 : Int)).toNat = 0 from rfl] at hx234_10); (try rw [show 0 * 12 = 0 from rfl] at hx234_10); (try rw [Addr.add_zero'] at hx234_10); (try rw [show ((0 : Int)).toNat = 0 from rfl] at hx234_11); (try rw [show 0 * 12 = 0 from rfl] at hx234_11); (try rw [Addr.add_zero'] at hx234_11); have HR234_3 := Aside0.mk hi234_3; have HC234_3 := Aside0.mk hl234_3; clear hi234_3 hl234_3; have HR234_6 := Aside0.mk hi234_6; have HC234_6 := Aside0.mk hl234_6; clear hi234_6 hl234_6; replace p234 := eq_true p234; replace q234 := eq_true q234; have p235 : 0 ≤ (0 : Int) := (by omega); have q235 : 0 < (t224.length : Int) := of_decide_eq_true (by first | (with_reducible assumption) | assumption); obtain ⟨ad235, A235_3, c235_3, A235_6, c235_6, e235, hx235_0, hx235_1, hx235_2, hx235_3, hx235_4, hx235_5, hx235_6, hx235_7, hx235_8, hx235_9, hx235_10, hx235_11, hl235_3, hi235_3, hl235_6, hi235_6⟩ := at_T45 (Kd.S_reads' HO228.out).2.2 0 p235 q235; obtain rfl : ad234 = ad235 := (by injection e235); obtain ⟨ce235, hce235, hMe235, hcc235⟩ := Kd.S_get HO228.out z45 0 p235 (by first | exact q235 | exact of_decide_eq_true (by first | (with_reducible assumption) | assumption) | (have e_ := (Kd.S_reads' HO228.out).1; omega)); obtain ⟨ve235_3, ve235_6, rfl, ge235_3, ge235_6⟩ := k45_openM hMe235; have hv235_3 := hcc235 3 _ rfl; rw [add_field _ _ 3 (by omega)] at hv235_3; replace hv235_3 := Option.some.inj (hv235_3.symm.trans hx235_3); rw [hv235_3] at ge235_3; have HL235_3 := Aside0.mk (show Kd.R k87 87 _ _ _ _ ((rd_T45 t224 0).f1.f2) from ge235_3); clear hv235_3 ge235_3; have hv235_6 := hcc235 6 _ rfl; rw [add_field _ _ 6 (by omega)] at hv235_6; replace hv235_6 := Option.some.inj (hv235_6.symm.trans hx235_6); rw [hv235_6] at ge235_6; have HL235_6 := Aside0.mk (show Kd.R Kd.string 9 _ _ _ _ ((rd_T45 t224 0).f4) from ge235_6); clear hv235_6 ge235_6; clear hcc235 hce235; have qi235 : (0 < t224.length) = True := eq_true (by omega); (try rw [show ((0 : Int)).toNat = 0 from rfl] at hx235_0); (try rw [show 0 * 12 = 0 from rfl] at hx235_0); (try rw [Addr.add_zero'] at hx235_0); (try rw [show ((0 : Int)).toNat = 0 from rfl] at hx235_1); (try rw [show 0 * 12 = 0 from rfl] at hx235_1); (try rw [Addr.add_zero'] at hx235_1); (try rw [show ((0 : Int)).toNat = 0 from rfl] at hx235_2); (try rw [show 0 * 12 = 0 from rfl] at hx235_2); (try rw [Addr.add_zero'] at hx235_2); (try rw [show ((0 : Int)).toNat = 0 from rfl] at hx235_3); (try rw [show 0 * 12 = 0 from rfl] at hx235_3); (try rw [Addr.add_zero'] at hx235_3); (try rw [show ((0 : Int)).toNat = 0 from rfl] at hx235_4); (try rw [show 0 * 12 = 0 from rfl] at hx235_4); (try rw [Addr.add_zero'] at hx235_4); (try rw [show ((0 : Int)).toNat = 0 from rfl] at hx235_5); (try rw [show 0 * 12 = 0 from rfl] at hx235_5); (try rw [Addr.add_zero'] at hx235_5); (try rw [show ((0 : Int)).toNat = 0 from rfl] at hx235_6); (try rw [show 0 * 12 = 0 from rfl] at hx235_6); (try rw [Addr.add_zero'] at hx235_6); (try rw [show ((0 : Int)).toNat = 0 from rfl] at hx235_7); (try rw [show 0 * 12 = 0 from rfl] at hx235_7); (try rw [Addr.add_zero'] at hx235_7); (try rw [show ((0 : Int)).toNat = 0 from rfl] at hx235_8); (try rw [show 0 * 12 = 0 from rfl] at hx235_8); (try rw [Addr.add_zero'] at hx235_8); (try rw [show ((0 : Int)).toNat = 0 from rfl] at hx235_9); (try rw [show 0 * 12 = 0 from rfl] at hx235_9); (try rw [Addr.add_zero'] at hx235_9); (try rw [show ((0 : Int)).toNat = 0 from rfl] at hx235_10); (try rw [show 0 * 12 = 0 from rfl] at hx235_10); (try rw [Addr.add_zero'] at hx235_10); (try rw [show ((0 : Int)).toNat = 0 from rfl] at hx235_11); (try rw [show 0 * 12 = 0 from rfl] at hx235_11); (try rw [Addr.add_zero'] at hx235_11); have HR235_3 := Aside0.mk hi235_3; have HC235_3 := Aside0.mk hl235_3; clear hi235_3 hl235_3; have HR235_6 := Aside0.mk hi235_6; have HC235_6 := Aside0.mk hl235_6; clear hi235_6 hl235_6; replace p235 := eq_true p235; replace q235 := eq_true q235; have ea_ := Option.some.inj (hx234_3.symm.trans hx235_3); injection ea_ with ea_ en_ ec_; subst ea_; subst ec_; clear en_; have ea_ := Option.some.inj (hx234_6.symm.trans hx235_6); injection ea_ with ea_ en_ ec_; subst ea_; subst ec_; clear en_))
            go_ret
            exact ⟨by first | rfl | (simp [errW_none, errW_some] <;> rfl) | (simp [*, errW_none, errW_some] <;> rfl), by repeat (first | (with_reducible first | exact HB.out | apply below_alloc | apply pw_below_drewN | apply below_drew1) | exact HB.out)⟩
        · rw [if_neg c6] at H
          have c6b0 : (((rd_T45 t224 0).f0) == 8) = false := beq_eq_false_iff_ne.mpr c6
          have c6b1 : (((rd_T45 t224 0).f0) != 8) = true := bne_iff_ne.mpr c6
          obtain rfl := Option.some.inj H
          go_enter Try.func12, Try.ntmps12
          go_wp2_with (first | ((with_reducible refine gate_callee (f := 19) rfl ?_); refine goesL_ (some 8) rfl rfl Try.func19 (by kernel_rfl) rfl #[.string (⟨#[116, 105, 99, 107, 32, 53, 59]⟩ : ByteArray)] rfl (by (try simp only [List.map_toArray, List.map_cons, List.map_nil]); first | done | rfl | (simp only [List.length_drop, List.length_take]; rfl)) ?_; (with_reducible refine (say_Script.calls k (⟨#[116, 105, 99, 107, 32, 53, 59]⟩ : ByteArray) t224 t225 t226 _ A1.out).mono ?_); rintro e w18 ⟨v227, rfl, ho0, hb⟩; refine ⟨_, rfl, ?_⟩; have n0_ := Aside0.mk (Kd.S_lower ho0 (below_size (by repeat (first | (with_reducible first | exact HB.out | apply below_alloc | apply pw_below_drewN | apply below_drew1) | exact HB.out)))); have n1_ := Aside0.mk (below_step (by repeat (first | (with_reducible first | exact HB.out | apply below_alloc | apply pw_below_drewN | apply below_drew1) | exact HB.out)) hb); clear HB; have HO228 := n0_; have HB := n1_; clear n0_ n1_; (try clear hb); (try clear hb2); (try clear hk); (try clear hi); (try clear ho0)) | ((with_reducible refine gate_callee (f := 19) rfl ?_); refine goesL_ (some 13) rfl rfl Try.func19 (by kernel_rfl) rfl #[.string (⟨#[116, 105, 99, 107, 32, 45, 48, 59]⟩ : ByteArray)] rfl (by (try simp only [List.map_toArray, List.map_cons, List.map_nil]); first | done | rfl | (simp only [List.length_drop, List.length_take]; rfl)) ?_; (with_reducible refine (say_Script.calls k (⟨#[116, 105, 99, 107, 32, 45, 48, 59]⟩ : ByteArray) t229 t230 t231 _ A2.out).mono ?_); rintro e w19 ⟨v232, rfl, ho0, hb⟩; refine ⟨_, rfl, ?_⟩; have n0_ := Aside0.mk (Kd.S_elder' (by (with_reducible repeat (first | apply Kd.S_alloc | apply Kd.S_drewN | apply Kd.S_drew)); exact HO228.out) (Kd.S_base ho0) hb); have n1_ := Aside0.mk (Kd.S_lower (Kd.S_new' ho0 (Kd.S_lt (by (with_reducible repeat (first | apply Kd.S_alloc | apply Kd.S_drewN | apply Kd.S_drew)); exact HO228.out))) (below_size (by repeat (first | (with_reducible first | exact HB.out | apply below_alloc | apply pw_below_drewN | apply below_drew1) | exact HB.out)))); have n2_ := Aside0.mk (below_step (by repeat (first | (with_reducible first | exact HB.out | apply below_alloc | apply pw_below_drewN | apply below_drew1) | exact HB.out)) hb); clear HO228; clear HB; have HO228 := n0_; have HO233 := n1_; have HB := n2_; clear n0_ n1_ n2_; (try clear hb); (try clear hb2); (try clear hk); (try clear hi); (try clear ho0); obtain ⟨Ao20, co20, eo20⟩ := Kd.S_slice HO228.out; subst eo20; have p234 : 0 ≤ (0 : Int) := (by omega); have q234 : 0 < (t224.length : Int) := of_decide_eq_true (by first | (with_reducible assumption) | assumption); obtain ⟨ad234, A234_3, c234_3, A234_6, c234_6, e234, hx234_0, hx234_1, hx234_2, hx234_3, hx234_4, hx234_5, hx234_6, hx234_7, hx234_8, hx234_9, hx234_10, hx234_11, hl234_3, hi234_3, hl234_6, hi234_6⟩ := at_T45 (Kd.S_reads' HO228.out).2.2 0 p234 q234; cases e234; obtain ⟨ce234, hce234, hMe234, hcc234⟩ := Kd.S_get HO228.out z45 0 p234 (by first | exact q234 | exact of_decide_eq_true (by first | (with_reducible assumption) | assumption) | (have e_ := (Kd.S_reads' HO228.out).1; omega)); obtain ⟨ve234_3, ve234_6, rfl, ge234_3, ge234_6⟩ := k45_openM hMe234; have hv234_3 := hcc234 3 _ rfl; rw [add_field _ _ 3 (by omega)] at hv234_3; replace hv234_3 := Option.some.inj (hv234_3.symm.trans hx234_3); rw [hv234_3] at ge234_3; have HL234_3 := Aside0.mk (show Kd.R k87 87 _ _ _ _ ((rd_T45 t224 0).f1.f2) from ge234_3); clear hv234_3 ge234_3; have hv234_6 := hcc234 6 _ rfl; rw [add_field _ _ 6 (by omega)] at hv234_6; replace hv234_6 := Option.some.inj (hv234_6.symm.trans hx234_6); rw [hv234_6] at ge234_6; have HL234_6 := Aside0.mk (show Kd.R Kd.string 9 _ _ _ _ ((rd_T45 t224 0).f4) from ge234_6); clear hv234_6 ge234_6; clear hcc234 hce234; have qi234 : (0 < t224.length) = True := eq_true (by omega); (try rw [show ((0 : Int)).toNat = 0 from rfl] at hx234_0); (try rw [show 0 * 12 = 0 from rfl] at hx234_0); (try rw [Addr.add_zero'] at hx234_0); (try rw [show ((0 : Int)).toNat = 0 from rfl] at hx234_1); (try rw [show 0 * 12 = 0 from rfl] at hx234_1); (try rw [Addr.add_zero'] at hx234_1); (try rw [show ((0 : Int)).toNat = 0 from rfl] at hx234_2); (try rw [show 0 * 12 = 0 from rfl] at hx234_2); (try rw [Addr.add_zero'] at hx234_2); (try rw [show ((0 : Int)).toNat = 0 from rfl] at hx234_3); (try rw [show 0 * 12 = 0 from rfl] at hx234_3); (try rw [Addr.add_zero'] at hx234_3); (try rw [show ((0 : Int)).toNat = 0 from rfl] at hx234_4); (try rw [show 0 * 12 = 0 from rfl] at hx234_4); (try rw [Addr.add_zero'] at hx234_4); (try rw [show ((0 : Int)).toNat = 0 from rfl] at hx234_5); (try rw [show 0 * 12 = 0 from rfl] at hx234_5); (try rw [Addr.add_zero'] at hx234_5); (try rw [show ((0 : Int)).toNat = 0 from rfl] at hx234_6); (try rw [show 0 * 12 = 0 from rfl] at hx234_6); (try rw [Addr.add_zero'] at hx234_6); (try rw [show ((0 : Int)).toNat = 0 from rfl] at hx234_7); (try rw [show 0 * 12 = 0 from rfl] at hx234_7); (try rw [Addr.add_zero'] at hx234_7); (try rw [show ((0 : Int)).toNat = 0 from rfl] at hx234_8); (try rw [show 0 * 12 = 0 from rfl] at hx234_8); (try rw [Addr.add_zero'] at hx234_8); (try rw [show ((0 : Int)).toNat = 0 from rfl] at hx234_9); (try rw [show 0 * 12 = 0 from rfl] at hx234_9); (try rw [Addr.add_zero'] at hx234_9); (try rw [show ((0 : Int)).toNat = 0 from rfl] at hx234_10); (try rw [show 0 * 12 = 0 from rfl] at hx234_10); (try rw [Addr.add_zero'] at hx234_10); (try rw [show ((0 : Int)).toNat = 0 from rfl] at hx234_11); (try rw [show 0 * 12 = 0 from rfl] at hx234_11); (try rw [Addr.add_zero'] at hx234_11); have HR234_3 := Aside0.mk hi234_3; have HC234_3 := Aside0.mk hl234_3; clear hi234_3 hl234_3; have HR234_6 := Aside0.mk hi234_6; have HC234_6 := Aside0.mk hl234_6; clear hi234_6 hl234_6; replace p234 := eq_true p234; replace q234 := eq_true q234))
          go_ret
          exact ⟨by first | rfl | (simp [errW_none, errW_some] <;> rfl) | (simp [*, errW_none, errW_some] <;> rfl), by repeat (first | (with_reducible first | exact HB.out | apply below_alloc | apply pw_below_drewN | apply below_drew1) | exact HB.out)⟩
      · rw [if_neg c5] at H
        exact absurd H (by simp)
    · rw [if_neg c4] at H
      have c4b0 : ((t224.length : Int) == 1) = false := beq_eq_false_iff_ne.mpr c4
      have c4b1 : ((t224.length : Int) != 1) = true := bne_iff_ne.mpr c4
      obtain rfl := Option.some.inj H
      go_enter Try.func12, Try.ntmps12
      go_wp2_with (first | ((with_reducible refine gate_callee (f := 19) rfl ?_); refine goesL_ (some 8) rfl rfl Try.func19 (by kernel_rfl) rfl #[.string (⟨#[116, 105, 99, 107, 32, 53, 59]⟩ : ByteArray)] rfl (by (try simp only [List.map_toArray, List.map_cons, List.map_nil]); first | done | rfl | (simp only [List.length_drop, List.length_take]; rfl)) ?_; (with_reducible refine (say_Script.calls k (⟨#[116, 105, 99, 107, 32, 53, 59]⟩ : ByteArray) t224 t225 t226 _ A1.out).mono ?_); rintro e w21 ⟨v227, rfl, ho0, hb⟩; refine ⟨_, rfl, ?_⟩; have n0_ := Aside0.mk (Kd.S_lower ho0 (below_size (by repeat (first | (with_reducible first | exact HB.out | apply below_alloc | apply pw_below_drewN | apply below_drew1) | exact HB.out)))); have n1_ := Aside0.mk (below_step (by repeat (first | (with_reducible first | exact HB.out | apply below_alloc | apply pw_below_drewN | apply below_drew1) | exact HB.out)) hb); clear HB; have HO228 := n0_; have HB := n1_; clear n0_ n1_; (try clear hb); (try clear hb2); (try clear hk); (try clear hi); (try clear ho0)) | ((with_reducible refine gate_callee (f := 19) rfl ?_); refine goesL_ (some 13) rfl rfl Try.func19 (by kernel_rfl) rfl #[.string (⟨#[116, 105, 99, 107, 32, 45, 48, 59]⟩ : ByteArray)] rfl (by (try simp only [List.map_toArray, List.map_cons, List.map_nil]); first | done | rfl | (simp only [List.length_drop, List.length_take]; rfl)) ?_; (with_reducible refine (say_Script.calls k (⟨#[116, 105, 99, 107, 32, 45, 48, 59]⟩ : ByteArray) t229 t230 t231 _ A2.out).mono ?_); rintro e w22 ⟨v232, rfl, ho0, hb⟩; refine ⟨_, rfl, ?_⟩; have n0_ := Aside0.mk (Kd.S_elder' (by (with_reducible repeat (first | apply Kd.S_alloc | apply Kd.S_drewN | apply Kd.S_drew)); exact HO228.out) (Kd.S_base ho0) hb); have n1_ := Aside0.mk (Kd.S_lower (Kd.S_new' ho0 (Kd.S_lt (by (with_reducible repeat (first | apply Kd.S_alloc | apply Kd.S_drewN | apply Kd.S_drew)); exact HO228.out))) (below_size (by repeat (first | (with_reducible first | exact HB.out | apply below_alloc | apply pw_below_drewN | apply below_drew1) | exact HB.out)))); have n2_ := Aside0.mk (below_step (by repeat (first | (with_reducible first | exact HB.out | apply below_alloc | apply pw_below_drewN | apply below_drew1) | exact HB.out)) hb); clear HO228; clear HB; have HO228 := n0_; have HO233 := n1_; have HB := n2_; clear n0_ n1_ n2_; (try clear hb); (try clear hb2); (try clear hk); (try clear hi); (try clear ho0); obtain ⟨Ao23, co23, eo23⟩ := Kd.S_slice HO228.out; subst eo23))
      go_ret
      exact ⟨by first | rfl | (simp [errW_none, errW_some] <;> rfl) | (simp [*, errW_none, errW_some] <;> rfl), by repeat (first | (with_reducible first | exact HB.out | apply below_alloc | apply pw_below_drewN | apply below_drew1) | exact HB.out)⟩
  · rw [if_neg c3] at H
    have c3b0 : (t226 == 0) = false := beq_eq_false_iff_ne.mpr c3
    have c3b1 : (t226 != 0) = true := bne_iff_ne.mpr c3
    obtain rfl := Option.some.inj H
    go_enter Try.func12, Try.ntmps12
    go_wp2_with (first | ((with_reducible refine gate_callee (f := 19) rfl ?_); refine goesL_ (some 8) rfl rfl Try.func19 (by kernel_rfl) rfl #[.string (⟨#[116, 105, 99, 107, 32, 53, 59]⟩ : ByteArray)] rfl (by (try simp only [List.map_toArray, List.map_cons, List.map_nil]); first | done | rfl | (simp only [List.length_drop, List.length_take]; rfl)) ?_; (with_reducible refine (say_Script.calls k (⟨#[116, 105, 99, 107, 32, 53, 59]⟩ : ByteArray) t224 t225 t226 _ A1.out).mono ?_); rintro e w24 ⟨v227, rfl, ho0, hb⟩; refine ⟨_, rfl, ?_⟩; have n0_ := Aside0.mk (Kd.S_lower ho0 (below_size (by repeat (first | (with_reducible first | exact HB.out | apply below_alloc | apply pw_below_drewN | apply below_drew1) | exact HB.out)))); have n1_ := Aside0.mk (below_step (by repeat (first | (with_reducible first | exact HB.out | apply below_alloc | apply pw_below_drewN | apply below_drew1) | exact HB.out)) hb); clear HB; have HO228 := n0_; have HB := n1_; clear n0_ n1_; (try clear hb); (try clear hb2); (try clear hk); (try clear hi); (try clear ho0)) | ((with_reducible refine gate_callee (f := 19) rfl ?_); refine goesL_ (some 13) rfl rfl Try.func19 (by kernel_rfl) rfl #[.string (⟨#[116, 105, 99, 107, 32, 45, 48, 59]⟩ : ByteArray)] rfl (by (try simp only [List.map_toArray, List.map_cons, List.map_nil]); first | done | rfl | (simp only [List.length_drop, List.length_take]; rfl)) ?_; (with_reducible refine (say_Script.calls k (⟨#[116, 105, 99, 107, 32, 45, 48, 59]⟩ : ByteArray) t229 t230 t231 _ A2.out).mono ?_); rintro e w25 ⟨v232, rfl, ho0, hb⟩; refine ⟨_, rfl, ?_⟩; have n0_ := Aside0.mk (Kd.S_elder' (by (with_reducible repeat (first | apply Kd.S_alloc | apply Kd.S_drewN | apply Kd.S_drew)); exact HO228.out) (Kd.S_base ho0) hb); have n1_ := Aside0.mk (Kd.S_lower (Kd.S_new' ho0 (Kd.S_lt (by (with_reducible repeat (first | apply Kd.S_alloc | apply Kd.S_drewN | apply Kd.S_drew)); exact HO228.out))) (below_size (by repeat (first | (with_reducible first | exact HB.out | apply below_alloc | apply pw_below_drewN | apply below_drew1) | exact HB.out)))); have n2_ := Aside0.mk (below_step (by repeat (first | (with_reducible first | exact HB.out | apply below_alloc | apply pw_below_drewN | apply below_drew1) | exact HB.out)) hb); clear HO228; clear HB; have HO228 := n0_; have HO233 := n1_; have HB := n2_; clear n0_ n1_ n2_; (try clear hb); (try clear hb2); (try clear hk); (try clear hi); (try clear ho0)))
    go_ret
    exact ⟨by first | rfl | (simp [errW_none, errW_some] <;> rfl) | (simp [*, errW_none, errW_some] <;> rfl), by repeat (first | (with_reducible first | exact HB.out | apply below_alloc | apply pw_below_drewN | apply below_drew1) | exact HB.out)⟩

end Go.Proofs.Ytokkjnfdfbpphaa.A
namespace Go.Proofs.Ytokkjnfdfbpphaa.A
open Go.RowKit Go.Proofs.YtokkjnfdfbpphaaW.PrintWords Go.Proofs.YtokkjnfdfbpphaaW.PrintLast Go.Proofs.YtokkjnfdfbpphaaW.PrintMore
attribute [local go_sem] max2_int min2_int max_two min_two max_three min_three max_four min_four   -- for this text's walks alone
set_option linter.unusedVariables false
set_option linter.unusedSimpArgs false

set_option maxRecDepth 100000 in
theorem awake_true : chartularylaw23_awake.f 40 = some true := by kernel_rfl

end Go.Proofs.Ytokkjnfdfbpphaa.A
namespace Go.Proofs.Ytokkjnfdfbpphaa.A
open Go.RowKit Go.Proofs.YtokkjnfdfbpphaaW.PrintWords Go.Proofs.YtokkjnfdfbpphaaW.PrintLast Go.Proofs.YtokkjnfdfbpphaaW.PrintMore
attribute [local go_sem] max2_int min2_int max_two min_two max_three min_three max_four min_four   -- for this text's walks alone
set_option linter.unusedVariables false
set_option linter.unusedSimpArgs false

/-! the lexer over lists -/
/-- A list's first token: its kind, its text, how many bytes it takes. -/
def tokL : List UInt8 → Option (Int × List UInt8 × Nat)
  | [] => none
  | c :: t =>
    if isLetter c then some (0, (c :: t).takeWhile isWord, ((c :: t).takeWhile isWord).length)
    else if isDigit c || c == 45 then
      if c == 45 && (t.takeWhile isDigit).isEmpty then none else some (1, c :: t.takeWhile isDigit, (t.takeWhile isDigit).length + 1)
    else if c == 34 then (unq t).map fun p => (2, p.1, p.2 + 1)
    else if isMark c then some (3, [c], 1) else none
theorem tokAt_list (s : ByteArray) (j : Nat) : tokAt s j = (tokL (s.data.toList.drop j)).map fun p => (p.1, p.2.1, j + p.2.2) := by
  unfold tokAt tokL
  cases hl : s.data.toList.drop j with
  | nil => rfl
  | cons c t =>
    have ht : s.data.toList.drop (j + 1) = t := by rw [← List.drop_drop, hl]; rfl
    dsimp only
    split
    · simp [runTo, hl]
    · split
      · split
        · rfl
        · simp [runTo, ht]; omega
      · split
        · unfold unqAt; rw [ht]; cases unq t with
          | none => rfl
          | some p => simp; omega
        · split <;> rfl
def lexL : Nat → List UInt8 → Nat → Except Nat (List S28)
  | 0, _, _ => .ok []
  | n + 1, l, p =>
    if l.drop (blankLen false l) = [] then .ok []
    else match tokL (l.drop (blankLen false l)) with
      | none => .error (p + blankLen false l)
      | some (k, t, m) => (lexL n (l.drop (blankLen false l + m)) (p + blankLen false l + m)).map fun r => (⟨k, ⟨t.toArray⟩, ((p + blankLen false l : Nat) : Int)⟩ : S28) :: r
theorem lexAll_list : ∀ (n : Nat) (s : ByteArray) (i : Nat), i ≤ s.size → lexAll n s i = lexL n (s.data.toList.drop i) i
  | 0, _, _, _ => rfl
  | n + 1, s, i, hi => by
    have hb := blankLen_le (s.data.toList.drop i) false
    have hsz : s.data.toList.length = s.size := by simp
    rw [List.length_drop, hsz] at hb
    unfold lexAll lexL
    have e : (blanksTo s i = s.size) = ((s.data.toList.drop i).drop (blankLen false (s.data.toList.drop i)) = []) := by
      rw [List.drop_eq_nil_iff, List.length_drop, hsz]; unfold blanksTo; apply propext; omega
    simp only [e]
    split
    · rfl
    · rw [tokAt_list]
      have e2 : s.data.toList.drop (blanksTo s i) = (s.data.toList.drop i).drop (blankLen false (s.data.toList.drop i)) := by rw [List.drop_drop]; rfl
      rw [e2]
      cases ht : tokL ((s.data.toList.drop i).drop (blankLen false (s.data.toList.drop i))) with
      | none => rfl
      | some q =>
        obtain ⟨k, t, m⟩ := q
        dsimp only [Option.map_some]
        have hle := tokAt_le s (blanksTo s i) k t (blanksTo s i + m) (by unfold blanksTo; rename_i hne; rw [List.drop_eq_nil_iff, List.length_drop, hsz] at hne; omega) (by rw [tokAt_list, e2, ht]; rfl)
        rw [lexAll_list n s _ hle.2]
        rw [show s.data.toList.drop (blanksTo s i + m) = (s.data.toList.drop i).drop (blankLen false (s.data.toList.drop i) + m) from by rw [List.drop_drop]; congr 1; unfold blanksTo; omega]
        rfl
theorem lexed_list (s : ByteArray) : lexed s = lexL (s.size + 1) s.data.toList 0 := lexAll_list _ s 0 (Nat.zero_le _)
/-! a quote is read again -/
theorem hex_nibble (n : Fin 16) : hexVal (hexDigit n.1) = n.1 := by revert n; decide +kernel
theorem escape_quote (c : UInt8) : escapeVal [hexDigit (c.toNat / 16), hexDigit (c.toNat % 16)] = some c := by
  have hc := c.toNat_lt
  have h1 := hex_nibble ⟨c.toNat / 16, by omega⟩
  have h2 := hex_nibble ⟨c.toNat % 16, by omega⟩
  unfold escapeVal
  simp only [h1, h2]
  rw [if_pos ⟨by omega, by omega⟩]
  congr 1
  apply UInt8.toNat_inj.1
  simp
  omega
theorem unq_quote (l r : List UInt8) : unq (quoteBody l ++ 34 :: r) = some (l, (quoteBody l).length + 1) := by
  induction l with
  | nil => rw [show quoteBody [] = [] from rfl, List.nil_append, unq_cons]; simp
  | cons c t ih =>
    rw [show quoteBody (c :: t) = quoteByte c ++ quoteBody t from rfl, List.append_assoc]
    unfold quoteByte
    cases hp : isPlain c with
    | true =>
      have h1 : ¬ (c == 34) = true := by intro h; simp [isPlain] at hp h; simp [h] at hp
      have h2 : ¬ (c == 92) = true := by intro h; simp [isPlain] at hp h; simp [h] at hp
      simp only [if_true, List.singleton_append]
      rw [unq_cons, if_neg h1, if_neg h2, hp, if_pos rfl, ih]
      simp
    | false =>
      simp only [Bool.false_eq_true, if_false, List.cons_append, List.nil_append]
      rw [unq_cons, if_neg (by decide), if_pos (by decide)]
      dsimp only
      rw [if_pos (by decide), escape_quote]
      dsimp only
      rw [hp, ih]
      simp
theorem tok_quote (l r : List UInt8) : tokL (quoted l ++ r) = some (2, l, (quoted l).length) := by
  unfold quoted tokL
  rw [List.cons_append, List.append_assoc]
  simp only [List.cons_append, List.nil_append]
  rw [if_neg (by decide), if_neg (by decide), if_pos (by decide), unq_quote]
  simp
theorem quoted_le (l : List UInt8) : (quoted l).length ≤ 4 * l.length + 2 := by
  have := quoteBody_le l; unfold quoted; simp; omega

end Go.Proofs.Ytokkjnfdfbpphaa.A
namespace Go.Proofs.Ytokkjnfdfbpphaa.A
open Go.RowKit Go.Proofs.YtokkjnfdfbpphaaW.PrintWords Go.Proofs.YtokkjnfdfbpphaaW.PrintLast Go.Proofs.YtokkjnfdfbpphaaW.PrintMore
attribute [local go_sem] max2_int min2_int max_two min_two max_three min_three max_four min_four   -- for this text's walks alone
set_option linter.unusedVariables false
set_option linter.unusedSimpArgs false

/-! ### chartularylaw23_cut: function 8 -/
def chartularylaw23_cut.f (a0 : ByteArray) : Option (ByteArray) := if (a0.size : Int) > 500 then (if 0 ≤ 500 then (if 500 ≤ (a0.size : Int) then (some (a0.extract 0 500)) else (none)) else (none)) else (some a0)
set_option maxHeartbeats 8000000 in
set_option maxRecDepth 100000 in
theorem chartularylaw23_cut.calls (a0 : ByteArray) (r : ByteArray) (w : World) (h : chartularylaw23_cut.f a0 = some r) :
    Calls Try.prog 8 #[.string a0] w fun e w' => e = .returned (.string r) ∧ Drawn0 w w' := by
  have H : (if (a0.size : Int) > 500 then (if 0 ≤ 500 then (if 500 ≤ (a0.size : Int) then (some (a0.extract 0 500)) else (none)) else (none)) else (some a0)) = some r := h
  clear h
  by_cases c2 : (a0.size : Int) > 500
  · rw [if_pos c2] at H
    have c2b0 : decide (500 < (a0.size : Int)) = true := decide_eq_true c2
    have c2b1 : decide (500 < a0.size) = true := decide_eq_true (by omega)
    clear c2
    by_cases c3 : 0 ≤ 500
    · rw [if_pos c3] at H
      have c3b0 := eq_true c3
      have c3b1 : decide (0 ≤ 500) = true := decide_eq_true c3
      clear c3
      by_cases c4 : 500 ≤ (a0.size : Int)
      · rw [if_pos c4] at H
        have c4b0 := eq_true c4
        have c4b1 : decide (500 ≤ (a0.size : Int)) = true := decide_eq_true c4
        clear c4
        obtain rfl := Option.some.inj H
        go_enter Try.func8, Try.ntmps8
        go_wp2
        go_ret
        exact ⟨by first | rfl | (simp; done) | (simp [*]; done), by repeat (first | exact Drawn0.refl _ | apply Drawn0.step)⟩
      · rw [if_neg c4] at H
        exact absurd H (by simp)
    · rw [if_neg c3] at H
      exact absurd H (by simp)
  · rw [if_neg c2] at H
    have c2b0 : decide (500 < (a0.size : Int)) = false := decide_eq_false c2
    have c2b1 : decide (500 < a0.size) = false := decide_eq_false (by omega)
    clear c2
    obtain rfl := Option.some.inj H
    go_enter Try.func8, Try.ntmps8
    go_wp2
    go_ret
    exact ⟨by first | rfl | (simp; done) | (simp [*]; done), by repeat (first | exact Drawn0.refl _ | apply Drawn0.step)⟩

end Go.Proofs.Ytokkjnfdfbpphaa.A
namespace Go.Proofs.Ytokkjnfdfbpphaa.A
open Go.RowKit Go.Proofs.YtokkjnfdfbpphaaW.PrintWords Go.Proofs.YtokkjnfdfbpphaaW.PrintLast Go.Proofs.YtokkjnfdfbpphaaW.PrintMore
attribute [local go_sem] max2_int min2_int max_two min_two max_three min_three max_four min_four   -- for this text's walks alone
set_option linter.unusedVariables false
set_option linter.unusedSimpArgs false

/-! ### say_Quoted: function 9 -/
def say_Quoted.f (a0 : ByteArray) : Option (ByteArray) := if a0.size ≤ 4294967296 then some ⟨(quoted a0.data.toList).toArray⟩ else none
set_option maxRecDepth 100000 in
set_option maxHeartbeats 2000000 in
theorem Quoted_calls (s : ByteArray) (w : World) (hs : s.size ≤ 4294967296) :
    Calls Try.prog 9 #[.string s] w fun e w' => e = .returned (.string ⟨(quoted s.data.toList).toArray⟩) ∧ Below w.heap.size w w' := by
  go_enter Try.func9, Try.ntmps9
  go_wp2_with (go_at_call 25; refine (bld_byte w.heap.size w.heap.size [] 34 _ (bld_new w) (by simp) (by simp)).mono ?_)
  rintro e w1 ⟨rfl, hb, hw⟩
  have HB := Aside0.mk hb
  have HW := Aside0.mk (((Below.refl w.heap.size w).alloc (Nat.le_refl _) _).trans hw)
  clear hb hw
  go_wp2_with fail
  go_loopw [9] (fun v wr => ∃ k : Nat, k ≤ s.size ∧ v = .int .i64 (k : Int) ∧ Aside0 (Bld w.heap.size w.heap.size (34 :: quoteBody (s.data.toList.take k)) wr) ∧ Aside0 (Below w.heap.size w wr))
    (fun v _ => s.size - (intOf v).toNat)
  case atStart => exact ⟨0, Nat.zero_le _, rfl, ⟨by simpa [quoteBody] using HB.out⟩, HW⟩
  case round =>
    obtain ⟨k, hk, rfl, hb, hw⟩ := hrel
    have hq := quoteBody_le (s.data.toList.take k)
    have hq2 : (s.data.toList.take k).length ≤ s.size := by simp; have : s.data.size = s.size := rfl; omega
    by_cases hlt : k < s.size
    · have hst := Aside0.mk (take_snoc s k hlt)
      cases hp : isPlain s[k] with
      | true =>
        have hpl := Aside0.mk hp
        go_wp2_with (first | (go_at_call 26; refine (plain_q s[k] _).mono ?_; rintro e w2 ⟨rfl, n, rfl⟩; rw [hp]) | (go_at_call 25; refine (bld_byte w.heap.size w.heap.size _ s[k] _ (bld_drewN hb.out _) (by simp only [List.length_cons]; omega) hw.out.size).mono ?_; rintro e w2 ⟨rfl, hb2, hw2⟩; have HB2 := Aside0.mk hb2; have HW2 := Aside0.mk hw2; clear hb2 hw2))
        go_roundw
        case rel => exact ⟨k + 1, by omega, by go_num, ⟨by rw [hst.out, quoteBody_snoc]; simpa [quoteByte, hpl.out] using HB2.out⟩, ⟨(bel_drewN hw.out _).trans HW2.out⟩⟩
        case measure => simp [intOf]; omega
      | false =>
        have hpl := Aside0.mk hp
        have hc := s[k].toNat_lt
        have hx1 : (0 : Int) ≤ (s[k].toNat : Int) / 16 := by omega
        have hx2 : (s[k].toNat : Int) / 16 < 16 := by omega
        have hx3 : (0 : Int) ≤ (s[k].toNat : Int) % 16 := by omega
        have hx4 : (s[k].toNat : Int) % 16 < 16 := by omega
        go_wp2_with (first | (go_at_call 26; refine (plain_q s[k] _).mono ?_; rintro e w2 ⟨rfl, n, rfl⟩; rw [hp]) | (go_at_call 27; refine (bld_str w.heap.size w.heap.size _ ⟨#[92, 120]⟩ _ (bld_drewN hb.out _) (by simp only [List.length_cons]; show _ + 2 ≤ _; omega) hw.out.size).mono ?_; rintro e w2 ⟨rfl, hb2, hw2⟩; have HB2 := Aside0.mk hb2; have HW2 := Aside0.mk hw2; clear hb2 hw2))
        refine (bld_byte w.heap.size w.heap.size _ _ _ HB2.out (by simp only [List.length_append, List.length_cons, List.length_nil]; omega) (Nat.le_trans hw.out.size HW2.out.size)).mono ?_
        rintro e w3 ⟨rfl, hb3, hw3⟩
        have HB3 := Aside0.mk hb3
        have HW3 := Aside0.mk (((bel_drewN hw.out _).trans HW2.out).trans hw3)
        clear hb3 hw3
        go_wp2_with fail
        refine (bld_byte w.heap.size w.heap.size _ _ _ HB3.out (by simp only [List.length_append, List.length_cons, List.length_nil]; omega) HW3.out.size).mono ?_
        rintro e w4 ⟨rfl, hb4, hw4⟩
        have HB4 := Aside0.mk hb4
        have HW4 := Aside0.mk (HW3.out.trans hw4)
        clear hb4 hw4
        go_wp2_with fail
        go_roundw
        case rel => exact ⟨k + 1, by omega, by go_num, ⟨by rw [hst.out, quoteBody_snoc]; simpa [quoteByte, hpl.out, hexIdx _ (show s[k].toNat / 16 < 16 by omega), hexIdx _ (show s[k].toNat % 16 < 16 by omega)] using HB4.out⟩, HW4⟩
        case measure => simp [intOf]; omega
    · obtain rfl : k = s.size := by omega
      have hkt : s.data.toList.take s.size = s.data.toList := List.take_of_length_le (by simp)
      have HK := Aside0.mk hkt
      clear hkt
      go_wp2_with (first | (go_at_call 25; refine (bld_byte w.heap.size w.heap.size _ 34 _ hb.out (by simp only [List.length_cons]; omega) hw.out.size).mono ?_; rintro e w2 ⟨rfl, hb2, hw2⟩; have HB2 := Aside0.mk hb2; have HW2 := Aside0.mk hw2; clear hb2 hw2) | (go_at_call 28; refine (bld_string w.heap.size w.heap.size _ _ HB2.out (Nat.le_trans hw.out.size HW2.out.size)).mono ?_; rintro e w3 ⟨rfl, hw3⟩))
      go_ret
      exact ⟨by rw [HK.out]; rfl, (hw.out.trans HW2.out).trans hw3⟩
theorem say_Quoted.calls (a0 : ByteArray) (r : ByteArray) (w : World) (h : say_Quoted.f a0 = some r) :
    Calls Try.prog 9 #[.string a0] w fun e w' => e = .returned (.string r) ∧ Below w.heap.size w w' := by
  unfold say_Quoted.f at h
  split at h
  · obtain rfl := Option.some.inj h
    exact Quoted_calls a0 w ‹_›
  · simp at h

end Go.Proofs.Ytokkjnfdfbpphaa.A
namespace Go.Proofs.Ytokkjnfdfbpphaa.A
open Go.RowKit Go.Proofs.YtokkjnfdfbpphaaW.PrintWords Go.Proofs.YtokkjnfdfbpphaaW.PrintLast Go.Proofs.YtokkjnfdfbpphaaW.PrintMore
attribute [local go_sem] max2_int min2_int max_two min_two max_three min_three max_four min_four   -- for this text's walks alone
set_option linter.unusedVariables false
set_option linter.unusedSimpArgs false

/-! ### chartularyref23_plain: function 30 -/
def chartularyref23_plain.f (a0 : Int) : Option (Bool) := if a0 ≥ 32 then (if a0 ≤ 126 then (if a0 = 34 then (some false) else (some (a0 != 92))) else (some false)) else (some false)
set_option maxHeartbeats 8000000 in
set_option maxRecDepth 100000 in
theorem chartularyref23_plain.calls (a0 : Int) (r : Bool) (w : World) (h : chartularyref23_plain.f a0 = some r) :
    Calls Try.prog 30 #[.int .u8 a0] w fun e w' => e = .returned (.bool r) ∧ Drawn0 w w' := by
  have H : (if a0 ≥ 32 then (if a0 ≤ 126 then (if a0 = 34 then (some false) else (some (a0 != 92))) else (some false)) else (some false)) = some r := h
  clear h
  by_cases c2 : a0 ≥ 32
  · rw [if_pos c2] at H
    have c2b0 : decide (32 ≤ a0) = true := decide_eq_true c2
    clear c2
    by_cases c3 : a0 ≤ 126
    · rw [if_pos c3] at H
      have c3b0 : decide (a0 ≤ 126) = true := decide_eq_true c3
      clear c3
      by_cases c4 : a0 = 34
      · rw [if_pos c4] at H
        have c4b0 : (a0 == 34) = true := beq_iff_eq.mpr c4
        have c4b1 : (a0 != 34) = false := bne_eq_false_iff_eq.mpr c4
        clear c4
        obtain rfl := Option.some.inj H
        go_enter Try.func30, Try.ntmps30
        go_wp2
        go_ret
        exact ⟨by first | rfl | (simp; done) | (simp [*]; done), by repeat (first | exact Drawn0.refl _ | apply Drawn0.step)⟩
      · rw [if_neg c4] at H
        have c4b0 : (a0 == 34) = false := beq_eq_false_iff_ne.mpr c4
        have c4b1 : (a0 != 34) = true := bne_iff_ne.mpr c4
        obtain rfl := Option.some.inj H
        go_enter Try.func30, Try.ntmps30
        go_wp2
        go_ret
        exact ⟨by first | rfl | (simp; done) | (simp [*]; done), by repeat (first | exact Drawn0.refl _ | apply Drawn0.step)⟩
    · rw [if_neg c3] at H
      have c3b0 : decide (a0 ≤ 126) = false := decide_eq_false c3
      clear c3
      obtain rfl := Option.some.inj H
      go_enter Try.func30, Try.ntmps30
      go_wp2
      go_ret
      exact ⟨by first | rfl | (simp; done) | (simp [*]; done), by repeat (first | exact Drawn0.refl _ | apply Drawn0.step)⟩
  · rw [if_neg c2] at H
    have c2b0 : decide (32 ≤ a0) = false := decide_eq_false c2
    clear c2
    obtain rfl := Option.some.inj H
    go_enter Try.func30, Try.ntmps30
    go_wp2
    go_ret
    exact ⟨by first | rfl | (simp; done) | (simp [*]; done), by repeat (first | exact Drawn0.refl _ | apply Drawn0.step)⟩

end Go.Proofs.Ytokkjnfdfbpphaa.A
namespace Go.Proofs.Ytokkjnfdfbpphaa.A
open Go.RowKit Go.Proofs.YtokkjnfdfbpphaaW.PrintWords Go.Proofs.YtokkjnfdfbpphaaW.PrintLast Go.Proofs.YtokkjnfdfbpphaaW.PrintMore
attribute [local go_sem] max2_int min2_int max_two min_two max_three min_three max_four min_four   -- for this text's walks alone
set_option linter.unusedVariables false
set_option linter.unusedSimpArgs false

/-! ### chartularyref23_Quoted: function 11 -/
def chartularyref23_Quoted.f (a0 : ByteArray) : Option (ByteArray) := if a0.size ≤ 4294967296 then some ⟨(quoted a0.data.toList).toArray⟩ else none
theorem ref_plain (c : UInt8) : chartularyref23_plain.f (c.toNat : Int) = some (isPlain c) := by
  unfold chartularyref23_plain.f
  have e : isPlain c = (decide ((32 : Int) ≤ c.toNat) && decide ((c.toNat : Int) ≤ 126) && !decide ((c.toNat : Int) = 34) && !decide ((c.toNat : Int) = 92)) := by
    unfold isPlain; rw [Bool.eq_iff_iff]; simp [UInt8.le_iff_toNat_le, UInt8.lt_iff_toNat_lt, ← UInt8.toNat_inj]; omega
  rw [e]; repeat' split
  all_goals (first | (simp_all; done) | (simp_all; omega) | (rw [Option.some.injEq, Bool.eq_iff_iff]; simp; omega))
theorem hex_ext (m : Nat) (hm : m < 16) : (⟨#[48, 49, 50, 51, 52, 53, 54, 55, 56, 57, 97, 98, 99, 100, 101, 102]⟩ : ByteArray).extract m (m + 1) = ⟨[hexDigit m].toArray⟩ := by
  have h : m < (⟨#[48, 49, 50, 51, 52, 53, 54, 55, 56, 57, 97, 98, 99, 100, 101, 102]⟩ : ByteArray).size := hm
  rw [extract_one _ m h, hexIdx m hm]
set_option maxRecDepth 100000 in
set_option maxHeartbeats 2000000 in
theorem chartularyref23_Quoted.calls (a0 : ByteArray) (r : ByteArray) (w : World) (h : chartularyref23_Quoted.f a0 = some r) :
    Calls Try.prog 11 #[.string a0] w fun e w' => e = .returned (.string r) ∧ Drawn0 w w' := by
  unfold chartularyref23_Quoted.f at h
  split at h
  case isFalse => exact absurd h (by simp)
  rename_i hs
  simp only [Option.some.injEq] at h
  subst h
  go_enter Try.func11, Try.ntmps11
  go_wp2_with fail
  go_loopw [4, 5] (fun v4 v5 wr => ∃ (i : Nat) (O : ByteArray), v5 = .int .i64 (i : Int) ∧ i ≤ a0.size ∧ v4 = .string O ∧ Aside0 (O = ⟨(34 :: quoteBody (a0.data.toList.take i)).toArray⟩) ∧ Aside0 (Drawn0 w wr)) (fun _ v5 _ => a0.size - (intOf v5).toNat)
  case atStart => exact ⟨0, _, rfl, Nat.zero_le _, rfl, ⟨by simp [quoteBody]⟩, ⟨Drawn0.refl w⟩⟩
  case round =>
    obtain ⟨i, O, rfl, hi, rfl, HO, HW⟩ := hrel
    have hOs : O.size ≤ 17179869200 := by
      rw [HO.out]
      have h1 := quoteBody_le (a0.data.toList.take i)
      have h2 : (a0.data.toList.take i).length ≤ a0.size := by simp; have : a0.data.size = a0.size := rfl; omega
      show (34 :: quoteBody (a0.data.toList.take i)).toArray.size ≤ _
      simp only [List.size_toArray, List.length_cons]
      omega
    by_cases hlt : i < a0.size
    · have hst := Aside0.mk (take_snoc a0 i hlt)
      have hd : decide ((i : Int) < (a0.size : Int)) = true := by simp [hlt]
      cases hp : isPlain a0[i] with
      | true =>
        have hpl := Aside0.mk hp
        have HP : Aside0 (chartularyref23_plain.f (a0[i].toNat : Int) = some true) := ⟨by rw [ref_plain, hp]⟩
        have hi0 : (0 : Int) ≤ (i : Int) := by omega
        have hi1 : (i : Int) ≤ (i : Int) + 1 := by omega
        have hi2 : (i : Int) + 1 ≤ (a0.size : Int) := by omega
        have hi3 : ((i : Int) + 1).toNat = i + 1 := by omega
        have hxa : (a0.extract i (i + 1)).size ≤ 140737488351232 := by simp; omega
        go_wp2_with fail
        refine (chartularyref23_plain.calls _ _ _ HP.out).mono ?_
        rintro e w2 ⟨rfl, hw2⟩
        obtain ⟨⟨n, rfl⟩⟩ := hw2
        replace HW := Aside0.mk (HW.out.step n)
        revert HW
        generalize wr.drewN n = wd
        intro HW
        go_wp2_with fail
        go_roundw
        case rel => exact ⟨i + 1, _, by go_num, by omega, rfl, ⟨by rw [HO.out, hst.out, quoteBody_snoc, extract_one a0 i hlt]; apply ba_ext; simp [quoteByte, hpl.out]⟩, HW⟩
        case measure => simp [intOf]; omega
      | false =>
        have hpl := Aside0.mk hp
        have HP : Aside0 (chartularyref23_plain.f (a0[i].toNat : Int) = some false) := ⟨by rw [ref_plain, hp]⟩
        have hc := a0[i].toNat_lt
        have hx1 : (0 : Int) ≤ (a0[i].toNat : Int) / 16 := by omega
        have hx2 : (a0[i].toNat : Int) / 16 < 16 := by omega
        have hx3 : (0 : Int) ≤ (a0[i].toNat : Int) % 16 := by omega
        have hx4 : (a0[i].toNat : Int) % 16 < 16 := by omega
        go_wp2_with fail
        refine (chartularyref23_plain.calls _ _ _ HP.out).mono ?_
        rintro e w2 ⟨rfl, hw2⟩
        obtain ⟨⟨n, rfl⟩⟩ := hw2
        replace HW := Aside0.mk (HW.out.step n)
        revert HW
        generalize wr.drewN n = wd
        intro HW
        go_wp2_with fail
        obtain ⟨X, hX⟩ : ∃ X : ByteArray, X = ⟨#[48, 49, 50, 51, 52, 53, 54, 55, 56, 57, 97, 98, 99, 100, 101, 102]⟩ := ⟨_, rfl⟩
        have HX : Aside0 (∀ m : Nat, m < 16 → X.extract m (m + 1) = ⟨[hexDigit m].toArray⟩) := ⟨fun m hm => by
          subst hX
          exact hex_ext m hm⟩
        have hXs : X.size = 16 := by rw [hX]; rfl
        rw [← hX]
        have HXD := Aside0.mk hX
        clear hX
        have HN : Aside0 (a0[i].toNat / 16 < 16 ∧ a0[i].toNat % 16 < 16) := ⟨by omega⟩
        have HA : Aside0 ((a0[i].toNat : Int) / 16 = ((a0[i].toNat / 16 : Nat) : Int)) := ⟨by omega⟩
        have HB : Aside0 ((a0[i].toNat : Int) % 16 = ((a0[i].toNat % 16 : Nat) : Int)) := ⟨by omega⟩
        generalize (a0[i].toNat : Int) / 16 = H at hx1 hx2 HA ⊢
        generalize (a0[i].toNat : Int) % 16 = L at hx3 hx4 HB ⊢
        have s1 : IntKind.i64.wrap (H + 1) = H + 1 := by simp only [i64_w]; unfold wrap64; omega
        have s2 : IntKind.i64.wrap (L + 1) = L + 1 := by simp only [i64_w]; unfold wrap64; omega
        have z0 : (⟨#[92, 120]⟩ : ByteArray).size ≤ 140737488351232 := by decide
        have s3 : H ≤ H + 1 := by omega
        have s4 : L ≤ L + 1 := by omega
        have s5 : H + 1 ≤ (X.size : Int) := by rw [hXs]; omega
        have s6 : L + 1 ≤ (X.size : Int) := by rw [hXs]; omega
        have z1 : (O ++ (⟨#[92, 120]⟩ : ByteArray)).size ≤ 140737488351232 := by rw [ByteArray.size_append]; have : (⟨#[92, 120]⟩ : ByteArray).size = 2 := rfl; omega
        have z2 : (X.extract H.toNat (H + 1).toNat).size ≤ 140737488351232 := by simp; omega
        have z3 : (X.extract L.toNat (L + 1).toNat).size ≤ 140737488351232 := by simp; omega
        have z4 : (O ++ (⟨#[92, 120]⟩ : ByteArray) ++ X.extract H.toNat (H + 1).toNat).size ≤ 140737488351232 := by rw [ByteArray.size_append, ByteArray.size_append, ByteArray.size_extract]; have : (⟨#[92, 120]⟩ : ByteArray).size = 2 := rfl; omega
        clear hXs
        go_region
        have HE : Aside0 (O ++ (⟨#[92, 120]⟩ : ByteArray) ++ X.extract H.toNat (H + 1).toNat ++ X.extract L.toNat (L + 1).toNat = ⟨(34 :: quoteBody (a0.data.toList.take (i + 1))).toArray⟩) := ⟨by
          rw [hst.out, quoteBody_snoc, HO.out, HA.out, HB.out]
          have e1 : (((a0[i].toNat / 16 : Nat) : Int) + 1).toNat = a0[i].toNat / 16 + 1 := by omega
          have e2 : (((a0[i].toNat % 16 : Nat) : Int) + 1).toNat = a0[i].toNat % 16 + 1 := by omega
          rw [e1, e2, Int.toNat_natCast, Int.toNat_natCast, HX.out _ HN.out.1, HX.out _ HN.out.2]
          apply ba_ext
          simp [quoteByte, hpl.out]⟩
        rw [HE.out]
        clear HE HX HN HA HB s1 s2 s3 s4 s5 s6 z1 z2 z3 z4
        rw [HXD.out]
        go_wp2_with fail
        go_roundw
        case rel => exact ⟨i + 1, _, by go_num, by omega, rfl, ⟨rfl⟩, ⟨HW.out.step 1⟩⟩
        case measure => simp [intOf]; omega
    · obtain rfl : i = a0.size := by omega
      have hd : decide ((a0.size : Int) < (a0.size : Int)) = false := by simp
      have hxb : (⟨#[34]⟩ : ByteArray).size ≤ 140737488351232 := by decide
      go_wp2_with fail
      go_ret
      refine ⟨?_, HW.out⟩
      have hkt : a0.data.toList.take a0.size = a0.data.toList := List.take_of_length_le (by simp)
      show Ending.returned (Value.string (O ++ ⟨#[34]⟩)) = _
      rw [HO.out, hkt]
      congr 2

end Go.Proofs.Ytokkjnfdfbpphaa.A
namespace Go.Proofs.Ytokkjnfdfbpphaa.A
open Go.RowKit Go.Proofs.YtokkjnfdfbpphaaW.PrintWords Go.Proofs.YtokkjnfdfbpphaaW.PrintLast Go.Proofs.YtokkjnfdfbpphaaW.PrintMore
attribute [local go_sem] max2_int min2_int max_two min_two max_three min_three max_four min_four   -- for this text's walks alone
set_option linter.unusedVariables false
set_option linter.unusedSimpArgs false

/-! ### chartularylaw23_SayQuotes: function 3 -/
def chartularylaw23_SayQuotes.f (k : Nat) (a0 : ByteArray) : Option (Bool) := (chartularylaw23_cut.f a0).bind fun t236 => ((say_Quoted.f t236).bind fun t237 => ((say_Tokens.f t237).bind fun bt238 => ((chartularyref23_Quoted.f t236).bind fun t243 => (if t237.toList = t243.toList then (if bt238.2.2 = 0 then (if (bt238.1.length : Int) = 1 then (if 0 < (bt238.1.length : Int) then (if ((rd_T28 bt238.1 0).f0) = 2 then (if ((rd_T28 bt238.1 0).f1).toList = t236.toList then ((chartularylaw23_awake.f k).bind fun t246 => (some t246)) else (some false)) else (some false)) else (none)) else (some false)) else (some false)) else (some false)))))
theorem chartularylaw23_SayQuotes.mono : ∀ a0 k, LeO (chartularylaw23_SayQuotes.f k a0) (chartularylaw23_SayQuotes.f (k + 1) a0) := by
  intro a0 k
  unfold chartularylaw23_SayQuotes.f
  repeat' first
      | (with_reducible exact chartularylaw23_awake.mono _)
      | (with_reducible exact LeO.refl _)
      | (with_reducible exact LeO.none _)
      | (with_reducible refine LeO.ite ?_ ?_)
      | (with_reducible refine LeO.bind ?_ (fun _ => ?_))
      | exact chartularylaw23_awake.mono _
      | exact LeO.none _
      | refine LeO.ite ?_ ?_
      | refine LeO.bind ?_ (fun _ => ?_)
set_option maxHeartbeats 8000000 in
set_option maxRecDepth 100000 in
theorem chartularylaw23_SayQuotes.calls (k : Nat) (a0 : ByteArray) (r : Bool) (w : World) (h : chartularylaw23_SayQuotes.f k a0 = some r) :
    Calls Try.prog 3 #[.string a0] w fun e w' => e = .returned (.bool r) ∧ Below w.heap.size w w' := by
  have HB := Aside0.mk (Below.refl w.heap.size w)
  have H : ((chartularylaw23_cut.f a0).bind fun t236 => ((say_Quoted.f t236).bind fun t237 => ((say_Tokens.f t237).bind fun bt238 => ((chartularyref23_Quoted.f t236).bind fun t243 => (if t237.toList = t243.toList then (if bt238.2.2 = 0 then (if (bt238.1.length : Int) = 1 then (if 0 < (bt238.1.length : Int) then (if ((rd_T28 bt238.1 0).f0) = 2 then (if ((rd_T28 bt238.1 0).f1).toList = t236.toList then ((chartularylaw23_awake.f k).bind fun t246 => (some t246)) else (some false)) else (some false)) else (none)) else (some false)) else (some false)) else (some false)))))) = some r := h
  clear h
  replace H := Option.bind_eq_some_iff.mp H
  obtain ⟨t236, A20, H⟩ := H
  replace H : ((say_Quoted.f t236).bind fun t237 => ((say_Tokens.f t237).bind fun bt238 => ((chartularyref23_Quoted.f t236).bind fun t243 => (if t237.toList = t243.toList then (if bt238.2.2 = 0 then (if (bt238.1.length : Int) = 1 then (if 0 < (bt238.1.length : Int) then (if ((rd_T28 bt238.1 0).f0) = 2 then (if ((rd_T28 bt238.1 0).f1).toList = t236.toList then ((chartularylaw23_awake.f k).bind fun t246 => (some t246)) else (some false)) else (some false)) else (none)) else (some false)) else (some false)) else (some false))))) = some r := H
  have A2 := Aside0.mk A20
  clear A20
  replace H := Option.bind_eq_some_iff.mp H
  obtain ⟨t237, A30, H⟩ := H
  replace H : ((say_Tokens.f t237).bind fun bt238 => ((chartularyref23_Quoted.f t236).bind fun t243 => (if t237.toList = t243.toList then (if bt238.2.2 = 0 then (if (bt238.1.length : Int) = 1 then (if 0 < (bt238.1.length : Int) then (if ((rd_T28 bt238.1 0).f0) = 2 then (if ((rd_T28 bt238.1 0).f1).toList = t236.toList then ((chartularylaw23_awake.f k).bind fun t246 => (some t246)) else (some false)) else (some false)) else (none)) else (some false)) else (some false)) else (some false)))) = some r := H
  have A3 := Aside0.mk A30
  clear A30
  replace H := Option.bind_eq_some_iff.mp H
  obtain ⟨⟨t238, t239, t240⟩, A40, H⟩ := H
  replace H : ((chartularyref23_Quoted.f t236).bind fun t243 => (if t237.toList = t243.toList then (if t240 = 0 then (if (t238.length : Int) = 1 then (if 0 < (t238.length : Int) then (if ((rd_T28 t238 0).f0) = 2 then (if ((rd_T28 t238 0).f1).toList = t236.toList then ((chartularylaw23_awake.f k).bind fun t246 => (some t246)) else (some false)) else (some false)) else (none)) else (some false)) else (some false)) else (some false))) = some r := H
  have A4 := Aside0.mk A40
  clear A40
  replace H := Option.bind_eq_some_iff.mp H
  obtain ⟨t243, A50, H⟩ := H
  replace H : (if t237.toList = t243.toList then (if t240 = 0 then (if (t238.length : Int) = 1 then (if 0 < (t238.length : Int) then (if ((rd_T28 t238 0).f0) = 2 then (if ((rd_T28 t238 0).f1).toList = t236.toList then ((chartularylaw23_awake.f k).bind fun t246 => (some t246)) else (some false)) else (some false)) else (none)) else (some false)) else (some false)) else (some false)) = some r := H
  have A5 := Aside0.mk A50
  clear A50
  by_cases c6 : t237.toList = t243.toList
  · rw [if_pos c6] at H
    have c6b0 : (t237.toList == t243.toList) = true := beq_iff_eq.mpr c6
    have c6b1 : (t237.toList != t243.toList) = false := bne_eq_false_iff_eq.mpr c6
    clear c6
    by_cases c7 : t240 = 0
    · rw [if_pos c7] at H
      have c7b0 : (t240 == 0) = true := beq_iff_eq.mpr c7
      have c7b1 : (t240 != 0) = false := bne_eq_false_iff_eq.mpr c7
      clear c7
      by_cases c8 : (t238.length : Int) = 1
      · rw [if_pos c8] at H
        have c8b0 : ((t238.length : Int) == 1) = true := beq_iff_eq.mpr c8
        have c8b1 : ((t238.length : Int) != 1) = false := bne_eq_false_iff_eq.mpr c8
        clear c8
        by_cases c9 : 0 < (t238.length : Int)
        · rw [if_pos c9] at H
          have c9b0 : decide (0 < (t238.length : Int)) = true := decide_eq_true c9
          have c9b1 : decide (0 < t238.length) = true := decide_eq_true (by omega)
          clear c9
          by_cases c10 : ((rd_T28 t238 0).f0) = 2
          · rw [if_pos c10] at H
            have c10b0 : (((rd_T28 t238 0).f0) == 2) = true := beq_iff_eq.mpr c10
            have c10b1 : (((rd_T28 t238 0).f0) != 2) = false := bne_eq_false_iff_eq.mpr c10
            clear c10
            by_cases c11 : ((rd_T28 t238 0).f1).toList = t236.toList
            · rw [if_pos c11] at H
              have c11b0 : (((rd_T28 t238 0).f1).toList == t236.toList) = true := beq_iff_eq.mpr c11
              have c11b1 : (((rd_T28 t238 0).f1).toList != t236.toList) = false := bne_eq_false_iff_eq.mpr c11
              clear c11
              replace H := Option.bind_eq_some_iff.mp H
              obtain ⟨t246, A120, H⟩ := H
              replace H : (some t246) = some r := H
              have A12 := Aside0.mk A120
              clear A120
              obtain rfl := Option.some.inj H
              go_enter Try.func3, Try.ntmps3
              go_wp2_with (first | ((with_reducible refine gate_callee (f := 8) rfl ?_); refine goesL_ (some 8) rfl rfl Try.func8 (by kernel_rfl) rfl #[.string a0] rfl (by (try simp only [List.map_toArray, List.map_cons, List.map_nil]); first | done | rfl | (simp only [List.length_drop, List.length_take]; rfl)) ?_; (with_reducible refine (chartularylaw23_cut.calls a0 t236 _ A2.out).mono ?_); rintro e w' ⟨rfl, ⟨nd, rfl⟩⟩; refine ⟨_, rfl, ?_⟩) | ((with_reducible refine gate_callee (f := 9) rfl ?_); refine goesL_ (some 10) rfl rfl Try.func9 (by kernel_rfl) rfl #[.string t236] rfl (by (try simp only [List.map_toArray, List.map_cons, List.map_nil]); first | done | rfl | (simp only [List.length_drop, List.length_take]; rfl)) ?_; (with_reducible refine (say_Quoted.calls t236 t237 _ A3.out).mono ?_); rintro e w13 ⟨rfl, hb⟩; refine ⟨_, rfl, ?_⟩; have n0_ := Aside0.mk (below_step (by repeat (first | (with_reducible first | exact HB.out | apply below_alloc | apply pw_below_drewN | apply below_drew1) | exact HB.out)) hb); clear HB; have HB := n0_; clear n0_; (try clear hb); (try clear hb2); (try clear hk); (try clear hi)) | ((with_reducible refine gate_callee (f := 10) rfl ?_); refine goesL_ (some 13) rfl rfl Try.func10 (by kernel_rfl) rfl #[.string t237] rfl (by (try simp only [List.map_toArray, List.map_cons, List.map_nil]); first | done | rfl | (simp only [List.length_drop, List.length_take]; rfl)) ?_; (with_reducible refine (say_Tokens.calls t237 t238 t239 t240 _ A4.out).mono ?_); rintro e w14 ⟨v241, rfl, ho0, hb⟩; refine ⟨_, rfl, ?_⟩; have n0_ := Aside0.mk (Kd.R_lower ho0 (below_size (by repeat (first | (with_reducible first | exact HB.out | apply below_alloc | apply pw_below_drewN | apply below_drew1) | exact HB.out)))); have n1_ := Aside0.mk (below_step (by repeat (first | (with_reducible first | exact HB.out | apply below_alloc | apply pw_below_drewN | apply below_drew1) | exact HB.out)) hb); clear HB; have HO242 := n0_; have HB := n1_; clear n0_ n1_; (try clear hb); (try clear hb2); (try clear hk); (try clear hi); (try clear ho0)) | ((with_reducible refine gate_callee (f := 11) rfl ?_); refine goesL_ (some 19) rfl rfl Try.func11 (by kernel_rfl) rfl #[.string t236] rfl (by (try simp only [List.map_toArray, List.map_cons, List.map_nil]); first | done | rfl | (simp only [List.length_drop, List.length_take]; rfl)) ?_; (with_reducible refine (chartularyref23_Quoted.calls t236 t243 _ A5.out).mono ?_); rintro e w' ⟨rfl, ⟨nd, rfl⟩⟩; refine ⟨_, rfl, ?_⟩; obtain ⟨Ao15, co15, eo15⟩ := Kd.R_slice HO242.out; subst eo15; have p244 : 0 ≤ (0 : Int) := (by omega); have q244 : 0 < (t238.length : Int) := of_decide_eq_true (by first | (with_reducible assumption) | assumption); obtain ⟨ad244, e244, hx244_0, hx244_1, hx244_2⟩ := at_T28 (Kd.R_reads' HO242.out).2.2 0 p244 q244; cases e244; have qi244 : (0 < t238.length) = True := eq_true (by omega); (try rw [show ((0 : Int)).toNat = 0 from rfl] at hx244_0); (try rw [show 0 * 3 = 0 from rfl] at hx244_0); (try rw [Addr.add_zero'] at hx244_0); (try rw [show ((0 : Int)).toNat = 0 from rfl] at hx244_1); (try rw [show 0 * 3 = 0 from rfl] at hx244_1); (try rw [Addr.add_zero'] at hx244_1); (try rw [show ((0 : Int)).toNat = 0 from rfl] at hx244_2); (try rw [show 0 * 3 = 0 from rfl] at hx244_2); (try rw [Addr.add_zero'] at hx244_2); replace p244 := eq_true p244; replace q244 := eq_true q244; have p245 : 0 ≤ (0 : Int) := (by omega); have q245 : 0 < (t238.length : Int) := of_decide_eq_true (by first | (with_reducible assumption) | assumption); obtain ⟨ad245, e245, hx245_0, hx245_1, hx245_2⟩ := at_T28 (Kd.R_reads' HO242.out).2.2 0 p245 q245; obtain rfl : ad244 = ad245 := (by injection e245); have qi245 : (0 < t238.length) = True := eq_true (by omega); (try rw [show ((0 : Int)).toNat = 0 from rfl] at hx245_0); (try rw [show 0 * 3 = 0 from rfl] at hx245_0); (try rw [Addr.add_zero'] at hx245_0); (try rw [show ((0 : Int)).toNat = 0 from rfl] at hx245_1); (try rw [show 0 * 3 = 0 from rfl] at hx245_1); (try rw [Addr.add_zero'] at hx245_1); (try rw [show ((0 : Int)).toNat = 0 from rfl] at hx245_2); (try rw [show 0 * 3 = 0 from rfl] at hx245_2); (try rw [Addr.add_zero'] at hx245_2); replace p245 := eq_true p245; replace q245 := eq_true q245) | (go_at_call 12; (with_reducible refine (chartularylaw23_awake.calls k  t246 _ A12.out).mono ?_); rintro e w16 ⟨rfl, hb⟩; have n0_ := Aside0.mk (Kd.R_below (by (with_reducible repeat (first | apply Kd.R_alloc | apply Kd.R_drewN | apply Kd.R_drew)); exact HO242.out) hb); have n1_ := Aside0.mk (below_step (by repeat (first | (with_reducible first | exact HB.out | apply below_alloc | apply pw_below_drewN | apply below_drew1) | exact HB.out)) hb); clear HO242; clear HB; have HO242 := n0_; have HB := n1_; clear n0_ n1_; (try clear hb); (try clear hb2); (try clear hk); (try clear hi)))
              go_ret
              exact ⟨by first | rfl | (simp [errW_none, errW_some] <;> rfl) | (simp [*, errW_none, errW_some] <;> rfl), by repeat (first | (with_reducible first | exact HB.out | apply below_alloc | apply pw_below_drewN | apply below_drew1) | exact HB.out)⟩
            · rw [if_neg c11] at H
              have c11b0 : (((rd_T28 t238 0).f1).toList == t236.toList) = false := beq_eq_false_iff_ne.mpr c11
              have c11b1 : (((rd_T28 t238 0).f1).toList != t236.toList) = true := bne_iff_ne.mpr c11
              obtain rfl := Option.some.inj H
              go_enter Try.func3, Try.ntmps3
              go_wp2_with (first | ((with_reducible refine gate_callee (f := 8) rfl ?_); refine goesL_ (some 8) rfl rfl Try.func8 (by kernel_rfl) rfl #[.string a0] rfl (by (try simp only [List.map_toArray, List.map_cons, List.map_nil]); first | done | rfl | (simp only [List.length_drop, List.length_take]; rfl)) ?_; (with_reducible refine (chartularylaw23_cut.calls a0 t236 _ A2.out).mono ?_); rintro e w' ⟨rfl, ⟨nd, rfl⟩⟩; refine ⟨_, rfl, ?_⟩) | ((with_reducible refine gate_callee (f := 9) rfl ?_); refine goesL_ (some 10) rfl rfl Try.func9 (by kernel_rfl) rfl #[.string t236] rfl (by (try simp only [List.map_toArray, List.map_cons, List.map_nil]); first | done | rfl | (simp only [List.length_drop, List.length_take]; rfl)) ?_; (with_reducible refine (say_Quoted.calls t236 t237 _ A3.out).mono ?_); rintro e w17 ⟨rfl, hb⟩; refine ⟨_, rfl, ?_⟩; have n0_ := Aside0.mk (below_step (by repeat (first | (with_reducible first | exact HB.out | apply below_alloc | apply pw_below_drewN | apply below_drew1) | exact HB.out)) hb); clear HB; have HB := n0_; clear n0_; (try clear hb); (try clear hb2); (try clear hk); (try clear hi)) | ((with_reducible refine gate_callee (f := 10) rfl ?_); refine goesL_ (some 13) rfl rfl Try.func10 (by kernel_rfl) rfl #[.string t237] rfl (by (try simp only [List.map_toArray, List.map_cons, List.map_nil]); first | done | rfl | (simp only [List.length_drop, List.length_take]; rfl)) ?_; (with_reducible refine (say_Tokens.calls t237 t238 t239 t240 _ A4.out).mono ?_); rintro e w18 ⟨v241, rfl, ho0, hb⟩; refine ⟨_, rfl, ?_⟩; have n0_ := Aside0.mk (Kd.R_lower ho0 (below_size (by repeat (first | (with_reducible first | exact HB.out | apply below_alloc | apply pw_below_drewN | apply below_drew1) | exact HB.out)))); have n1_ := Aside0.mk (below_step (by repeat (first | (with_reducible first | exact HB.out | apply below_alloc | apply pw_below_drewN | apply below_drew1) | exact HB.out)) hb); clear HB; have HO242 := n0_; have HB := n1_; clear n0_ n1_; (try clear hb); (try clear hb2); (try clear hk); (try clear hi); (try clear ho0)) | ((with_reducible refine gate_callee (f := 11) rfl ?_); refine goesL_ (some 19) rfl rfl Try.func11 (by kernel_rfl) rfl #[.string t236] rfl (by (try simp only [List.map_toArray, List.map_cons, List.map_nil]); first | done | rfl | (simp only [List.length_drop, List.length_take]; rfl)) ?_; (with_reducible refine (chartularyref23_Quoted.calls t236 t243 _ A5.out).mono ?_); rintro e w' ⟨rfl, ⟨nd, rfl⟩⟩; refine ⟨_, rfl, ?_⟩; obtain ⟨Ao19, co19, eo19⟩ := Kd.R_slice HO242.out; subst eo19; have p244 : 0 ≤ (0 : Int) := (by omega); have q244 : 0 < (t238.length : Int) := of_decide_eq_true (by first | (with_reducible assumption) | assumption); obtain ⟨ad244, e244, hx244_0, hx244_1, hx244_2⟩ := at_T28 (Kd.R_reads' HO242.out).2.2 0 p244 q244; cases e244; have qi244 : (0 < t238.length) = True := eq_true (by omega); (try rw [show ((0 : Int)).toNat = 0 from rfl] at hx244_0); (try rw [show 0 * 3 = 0 from rfl] at hx244_0); (try rw [Addr.add_zero'] at hx244_0); (try rw [show ((0 : Int)).toNat = 0 from rfl] at hx244_1); (try rw [show 0 * 3 = 0 from rfl] at hx244_1); (try rw [Addr.add_zero'] at hx244_1); (try rw [show ((0 : Int)).toNat = 0 from rfl] at hx244_2); (try rw [show 0 * 3 = 0 from rfl] at hx244_2); (try rw [Addr.add_zero'] at hx244_2); replace p244 := eq_true p244; replace q244 := eq_true q244; have p245 : 0 ≤ (0 : Int) := (by omega); have q245 : 0 < (t238.length : Int) := of_decide_eq_true (by first | (with_reducible assumption) | assumption); obtain ⟨ad245, e245, hx245_0, hx245_1, hx245_2⟩ := at_T28 (Kd.R_reads' HO242.out).2.2 0 p245 q245; obtain rfl : ad244 = ad245 := (by injection e245); have qi245 : (0 < t238.length) = True := eq_true (by omega); (try rw [show ((0 : Int)).toNat = 0 from rfl] at hx245_0); (try rw [show 0 * 3 = 0 from rfl] at hx245_0); (try rw [Addr.add_zero'] at hx245_0); (try rw [show ((0 : Int)).toNat = 0 from rfl] at hx245_1); (try rw [show 0 * 3 = 0 from rfl] at hx245_1); (try rw [Addr.add_zero'] at hx245_1); (try rw [show ((0 : Int)).toNat = 0 from rfl] at hx245_2); (try rw [show 0 * 3 = 0 from rfl] at hx245_2); (try rw [Addr.add_zero'] at hx245_2); replace p245 := eq_true p245; replace q245 := eq_true q245))
              go_ret
              exact ⟨by first | rfl | (simp [errW_none, errW_some] <;> rfl) | (simp [*, errW_none, errW_some] <;> rfl), by repeat (first | (with_reducible first | exact HB.out | apply below_alloc | apply pw_below_drewN | apply below_drew1) | exact HB.out)⟩
          · rw [if_neg c10] at H
            have c10b0 : (((rd_T28 t238 0).f0) == 2) = false := beq_eq_false_iff_ne.mpr c10
            have c10b1 : (((rd_T28 t238 0).f0) != 2) = true := bne_iff_ne.mpr c10
            obtain rfl := Option.some.inj H
            go_enter Try.func3, Try.ntmps3
            go_wp2_with (first | ((with_reducible refine gate_callee (f := 8) rfl ?_); refine goesL_ (some 8) rfl rfl Try.func8 (by kernel_rfl) rfl #[.string a0] rfl (by (try simp only [List.map_toArray, List.map_cons, List.map_nil]); first | done | rfl | (simp only [List.length_drop, List.length_take]; rfl)) ?_; (with_reducible refine (chartularylaw23_cut.calls a0 t236 _ A2.out).mono ?_); rintro e w' ⟨rfl, ⟨nd, rfl⟩⟩; refine ⟨_, rfl, ?_⟩) | ((with_reducible refine gate_callee (f := 9) rfl ?_); refine goesL_ (some 10) rfl rfl Try.func9 (by kernel_rfl) rfl #[.string t236] rfl (by (try simp only [List.map_toArray, List.map_cons, List.map_nil]); first | done | rfl | (simp only [List.length_drop, List.length_take]; rfl)) ?_; (with_reducible refine (say_Quoted.calls t236 t237 _ A3.out).mono ?_); rintro e w20 ⟨rfl, hb⟩; refine ⟨_, rfl, ?_⟩; have n0_ := Aside0.mk (below_step (by repeat (first | (with_reducible first | exact HB.out | apply below_alloc | apply pw_below_drewN | apply below_drew1) | exact HB.out)) hb); clear HB; have HB := n0_; clear n0_; (try clear hb); (try clear hb2); (try clear hk); (try clear hi)) | ((with_reducible refine gate_callee (f := 10) rfl ?_); refine goesL_ (some 13) rfl rfl Try.func10 (by kernel_rfl) rfl #[.string t237] rfl (by (try simp only [List.map_toArray, List.map_cons, List.map_nil]); first | done | rfl | (simp only [List.length_drop, List.length_take]; rfl)) ?_; (with_reducible refine (say_Tokens.calls t237 t238 t239 t240 _ A4.out).mono ?_); rintro e w21 ⟨v241, rfl, ho0, hb⟩; refine ⟨_, rfl, ?_⟩; have n0_ := Aside0.mk (Kd.R_lower ho0 (below_size (by repeat (first | (with_reducible first | exact HB.out | apply below_alloc | apply pw_below_drewN | apply below_drew1) | exact HB.out)))); have n1_ := Aside0.mk (below_step (by repeat (first | (with_reducible first | exact HB.out | apply below_alloc | apply pw_below_drewN | apply below_drew1) | exact HB.out)) hb); clear HB; have HO242 := n0_; have HB := n1_; clear n0_ n1_; (try clear hb); (try clear hb2); (try clear hk); (try clear hi); (try clear ho0)) | ((with_reducible refine gate_callee (f := 11) rfl ?_); refine goesL_ (some 19) rfl rfl Try.func11 (by kernel_rfl) rfl #[.string t236] rfl (by (try simp only [List.map_toArray, List.map_cons, List.map_nil]); first | done | rfl | (simp only [List.length_drop, List.length_take]; rfl)) ?_; (with_reducible refine (chartularyref23_Quoted.calls t236 t243 _ A5.out).mono ?_); rintro e w' ⟨rfl, ⟨nd, rfl⟩⟩; refine ⟨_, rfl, ?_⟩; obtain ⟨Ao22, co22, eo22⟩ := Kd.R_slice HO242.out; subst eo22; have p244 : 0 ≤ (0 : Int) := (by omega); have q244 : 0 < (t238.length : Int) := of_decide_eq_true (by first | (with_reducible assumption) | assumption); obtain ⟨ad244, e244, hx244_0, hx244_1, hx244_2⟩ := at_T28 (Kd.R_reads' HO242.out).2.2 0 p244 q244; cases e244; have qi244 : (0 < t238.length) = True := eq_true (by omega); (try rw [show ((0 : Int)).toNat = 0 from rfl] at hx244_0); (try rw [show 0 * 3 = 0 from rfl] at hx244_0); (try rw [Addr.add_zero'] at hx244_0); (try rw [show ((0 : Int)).toNat = 0 from rfl] at hx244_1); (try rw [show 0 * 3 = 0 from rfl] at hx244_1); (try rw [Addr.add_zero'] at hx244_1); (try rw [show ((0 : Int)).toNat = 0 from rfl] at hx244_2); (try rw [show 0 * 3 = 0 from rfl] at hx244_2); (try rw [Addr.add_zero'] at hx244_2); replace p244 := eq_true p244; replace q244 := eq_true q244))
            go_ret
            exact ⟨by first | rfl | (simp [errW_none, errW_some] <;> rfl) | (simp [*, errW_none, errW_some] <;> rfl), by repeat (first | (with_reducible first | exact HB.out | apply below_alloc | apply pw_below_drewN | apply below_drew1) | exact HB.out)⟩
        · rw [if_neg c9] at H
          exact absurd H (by simp)
      · rw [if_neg c8] at H
        have c8b0 : ((t238.length : Int) == 1) = false := beq_eq_false_iff_ne.mpr c8
        have c8b1 : ((t238.length : Int) != 1) = true := bne_iff_ne.mpr c8
        obtain rfl := Option.some.inj H
        go_enter Try.func3, Try.ntmps3
        go_wp2_with (first | ((with_reducible refine gate_callee (f := 8) rfl ?_); refine goesL_ (some 8) rfl rfl Try.func8 (by kernel_rfl) rfl #[.string a0] rfl (by (try simp only [List.map_toArray, List.map_cons, List.map_nil]); first | done | rfl | (simp only [List.length_drop, List.length_take]; rfl)) ?_; (with_reducible refine (chartularylaw23_cut.calls a0 t236 _ A2.out).mono ?_); rintro e w' ⟨rfl, ⟨nd, rfl⟩⟩; refine ⟨_, rfl, ?_⟩) | ((with_reducible refine gate_callee (f := 9) rfl ?_); refine goesL_ (some 10) rfl rfl Try.func9 (by kernel_rfl) rfl #[.string t236] rfl (by (try simp only [List.map_toArray, List.map_cons, List.map_nil]); first | done | rfl | (simp only [List.length_drop, List.length_take]; rfl)) ?_; (with_reducible refine (say_Quoted.calls t236 t237 _ A3.out).mono ?_); rintro e w23 ⟨rfl, hb⟩; refine ⟨_, rfl, ?_⟩; have n0_ := Aside0.mk (below_step (by repeat (first | (with_reducible first | exact HB.out | apply below_alloc | apply pw_below_drewN | apply below_drew1) | exact HB.out)) hb); clear HB; have HB := n0_; clear n0_; (try clear hb); (try clear hb2); (try clear hk); (try clear hi)) | ((with_reducible refine gate_callee (f := 10) rfl ?_); refine goesL_ (some 13) rfl rfl Try.func10 (by kernel_rfl) rfl #[.string t237] rfl (by (try simp only [List.map_toArray, List.map_cons, List.map_nil]); first | done | rfl | (simp only [List.length_drop, List.length_take]; rfl)) ?_; (with_reducible refine (say_Tokens.calls t237 t238 t239 t240 _ A4.out).mono ?_); rintro e w24 ⟨v241, rfl, ho0, hb⟩; refine ⟨_, rfl, ?_⟩; have n0_ := Aside0.mk (Kd.R_lower ho0 (below_size (by repeat (first | (with_reducible first | exact HB.out | apply below_alloc | apply pw_below_drewN | apply below_drew1) | exact HB.out)))); have n1_ := Aside0.mk (below_step (by repeat (first | (with_reducible first | exact HB.out | apply below_alloc | apply pw_below_drewN | apply below_drew1) | exact HB.out)) hb); clear HB; have HO242 := n0_; have HB := n1_; clear n0_ n1_; (try clear hb); (try clear hb2); (try clear hk); (try clear hi); (try clear ho0)) | ((with_reducible refine gate_callee (f := 11) rfl ?_); refine goesL_ (some 19) rfl rfl Try.func11 (by kernel_rfl) rfl #[.string t236] rfl (by (try simp only [List.map_toArray, List.map_cons, List.map_nil]); first | done | rfl | (simp only [List.length_drop, List.length_take]; rfl)) ?_; (with_reducible refine (chartularyref23_Quoted.calls t236 t243 _ A5.out).mono ?_); rintro e w' ⟨rfl, ⟨nd, rfl⟩⟩; refine ⟨_, rfl, ?_⟩; obtain ⟨Ao25, co25, eo25⟩ := Kd.R_slice HO242.out; subst eo25))
        go_ret
        exact ⟨by first | rfl | (simp [errW_none, errW_some] <;> rfl) | (simp [*, errW_none, errW_some] <;> rfl), by repeat (first | (with_reducible first | exact HB.out | apply below_alloc | apply pw_below_drewN | apply below_drew1) | exact HB.out)⟩
    · rw [if_neg c7] at H
      have c7b0 : (t240 == 0) = false := beq_eq_false_iff_ne.mpr c7
      have c7b1 : (t240 != 0) = true := bne_iff_ne.mpr c7
      obtain rfl := Option.some.inj H
      go_enter Try.func3, Try.ntmps3
      go_wp2_with (first | ((with_reducible refine gate_callee (f := 8) rfl ?_); refine goesL_ (some 8) rfl rfl Try.func8 (by kernel_rfl) rfl #[.string a0] rfl (by (try simp only [List.map_toArray, List.map_cons, List.map_nil]); first | done | rfl | (simp only [List.length_drop, List.length_take]; rfl)) ?_; (with_reducible refine (chartularylaw23_cut.calls a0 t236 _ A2.out).mono ?_); rintro e w' ⟨rfl, ⟨nd, rfl⟩⟩; refine ⟨_, rfl, ?_⟩) | ((with_reducible refine gate_callee (f := 9) rfl ?_); refine goesL_ (some 10) rfl rfl Try.func9 (by kernel_rfl) rfl #[.string t236] rfl (by (try simp only [List.map_toArray, List.map_cons, List.map_nil]); first | done | rfl | (simp only [List.length_drop, List.length_take]; rfl)) ?_; (with_reducible refine (say_Quoted.calls t236 t237 _ A3.out).mono ?_); rintro e w26 ⟨rfl, hb⟩; refine ⟨_, rfl, ?_⟩; have n0_ := Aside0.mk (below_step (by repeat (first | (with_reducible first | exact HB.out | apply below_alloc | apply pw_below_drewN | apply below_drew1) | exact HB.out)) hb); clear HB; have HB := n0_; clear n0_; (try clear hb); (try clear hb2); (try clear hk); (try clear hi)) | ((with_reducible refine gate_callee (f := 10) rfl ?_); refine goesL_ (some 13) rfl rfl Try.func10 (by kernel_rfl) rfl #[.string t237] rfl (by (try simp only [List.map_toArray, List.map_cons, List.map_nil]); first | done | rfl | (simp only [List.length_drop, List.length_take]; rfl)) ?_; (with_reducible refine (say_Tokens.calls t237 t238 t239 t240 _ A4.out).mono ?_); rintro e w27 ⟨v241, rfl, ho0, hb⟩; refine ⟨_, rfl, ?_⟩; have n0_ := Aside0.mk (Kd.R_lower ho0 (below_size (by repeat (first | (with_reducible first | exact HB.out | apply below_alloc | apply pw_below_drewN | apply below_drew1) | exact HB.out)))); have n1_ := Aside0.mk (below_step (by repeat (first | (with_reducible first | exact HB.out | apply below_alloc | apply pw_below_drewN | apply below_drew1) | exact HB.out)) hb); clear HB; have HO242 := n0_; have HB := n1_; clear n0_ n1_; (try clear hb); (try clear hb2); (try clear hk); (try clear hi); (try clear ho0)) | ((with_reducible refine gate_callee (f := 11) rfl ?_); refine goesL_ (some 19) rfl rfl Try.func11 (by kernel_rfl) rfl #[.string t236] rfl (by (try simp only [List.map_toArray, List.map_cons, List.map_nil]); first | done | rfl | (simp only [List.length_drop, List.length_take]; rfl)) ?_; (with_reducible refine (chartularyref23_Quoted.calls t236 t243 _ A5.out).mono ?_); rintro e w' ⟨rfl, ⟨nd, rfl⟩⟩; refine ⟨_, rfl, ?_⟩))
      go_ret
      exact ⟨by first | rfl | (simp [errW_none, errW_some] <;> rfl) | (simp [*, errW_none, errW_some] <;> rfl), by repeat (first | (with_reducible first | exact HB.out | apply below_alloc | apply pw_below_drewN | apply below_drew1) | exact HB.out)⟩
  · rw [if_neg c6] at H
    have c6b0 : (t237.toList == t243.toList) = false := beq_eq_false_iff_ne.mpr c6
    have c6b1 : (t237.toList != t243.toList) = true := bne_iff_ne.mpr c6
    obtain rfl := Option.some.inj H
    go_enter Try.func3, Try.ntmps3
    go_wp2_with (first | ((with_reducible refine gate_callee (f := 8) rfl ?_); refine goesL_ (some 8) rfl rfl Try.func8 (by kernel_rfl) rfl #[.string a0] rfl (by (try simp only [List.map_toArray, List.map_cons, List.map_nil]); first | done | rfl | (simp only [List.length_drop, List.length_take]; rfl)) ?_; (with_reducible refine (chartularylaw23_cut.calls a0 t236 _ A2.out).mono ?_); rintro e w' ⟨rfl, ⟨nd, rfl⟩⟩; refine ⟨_, rfl, ?_⟩) | ((with_reducible refine gate_callee (f := 9) rfl ?_); refine goesL_ (some 10) rfl rfl Try.func9 (by kernel_rfl) rfl #[.string t236] rfl (by (try simp only [List.map_toArray, List.map_cons, List.map_nil]); first | done | rfl | (simp only [List.length_drop, List.length_take]; rfl)) ?_; (with_reducible refine (say_Quoted.calls t236 t237 _ A3.out).mono ?_); rintro e w28 ⟨rfl, hb⟩; refine ⟨_, rfl, ?_⟩; have n0_ := Aside0.mk (below_step (by repeat (first | (with_reducible first | exact HB.out | apply below_alloc | apply pw_below_drewN | apply below_drew1) | exact HB.out)) hb); clear HB; have HB := n0_; clear n0_; (try clear hb); (try clear hb2); (try clear hk); (try clear hi)) | ((with_reducible refine gate_callee (f := 10) rfl ?_); refine goesL_ (some 13) rfl rfl Try.func10 (by kernel_rfl) rfl #[.string t237] rfl (by (try simp only [List.map_toArray, List.map_cons, List.map_nil]); first | done | rfl | (simp only [List.length_drop, List.length_take]; rfl)) ?_; (with_reducible refine (say_Tokens.calls t237 t238 t239 t240 _ A4.out).mono ?_); rintro e w29 ⟨v241, rfl, ho0, hb⟩; refine ⟨_, rfl, ?_⟩; have n0_ := Aside0.mk (Kd.R_lower ho0 (below_size (by repeat (first | (with_reducible first | exact HB.out | apply below_alloc | apply pw_below_drewN | apply below_drew1) | exact HB.out)))); have n1_ := Aside0.mk (below_step (by repeat (first | (with_reducible first | exact HB.out | apply below_alloc | apply pw_below_drewN | apply below_drew1) | exact HB.out)) hb); clear HB; have HO242 := n0_; have HB := n1_; clear n0_ n1_; (try clear hb); (try clear hb2); (try clear hk); (try clear hi); (try clear ho0)) | ((with_reducible refine gate_callee (f := 11) rfl ?_); refine goesL_ (some 19) rfl rfl Try.func11 (by kernel_rfl) rfl #[.string t236] rfl (by (try simp only [List.map_toArray, List.map_cons, List.map_nil]); first | done | rfl | (simp only [List.length_drop, List.length_take]; rfl)) ?_; (with_reducible refine (chartularyref23_Quoted.calls t236 t243 _ A5.out).mono ?_); rintro e w' ⟨rfl, ⟨nd, rfl⟩⟩; refine ⟨_, rfl, ?_⟩))
    go_ret
    exact ⟨by first | rfl | (simp [errW_none, errW_some] <;> rfl) | (simp [*, errW_none, errW_some] <;> rfl), by repeat (first | (with_reducible first | exact HB.out | apply below_alloc | apply pw_below_drewN | apply below_drew1) | exact HB.out)⟩

/-- THE ONE PURE STATEMENT of chartularylaw23_SayQuotes: yours. -/
def chartularylaw23_SayQuotes.Pure : Prop := ∀ (a0 : ByteArray), a0.size ≤ 140737488351232 → ∃ k, chartularylaw23_SayQuotes.f k a0 = some true
theorem chartularylaw23_SayQuotes.walk (P : chartularylaw23_SayQuotes.Pure) (a0 : ByteArray) (w : World) (w0 : a0.size ≤ 140737488351232) :
    Calls Try.prog 3 #[.string a0] w fun e w' => e = .returned (.bool true) ∧ Below w.heap.size w w' := by
  obtain ⟨k, h⟩ := P a0 w0
  refine (chartularylaw23_SayQuotes.calls k a0 true w h).mono ?_
  rintro e w' ⟨rfl, hd⟩
  exact ⟨rfl, hd⟩

end Go.Proofs.Ytokkjnfdfbpphaa.A
namespace Go.Proofs.Ytokkjnfdfbpphaa.A
open Go.RowKit Go.Proofs.YtokkjnfdfbpphaaW.PrintWords Go.Proofs.YtokkjnfdfbpphaaW.PrintLast Go.Proofs.YtokkjnfdfbpphaaW.PrintMore
attribute [local go_sem] max2_int min2_int max_two min_two max_three min_three max_four min_four   -- for this text's walks alone
set_option linter.unusedVariables false
set_option linter.unusedSimpArgs false

theorem cut_some (a0 : ByteArray) : ∃ t : ByteArray, chartularylaw23_cut.f a0 = some t ∧ t.size ≤ 500 := by
  unfold chartularylaw23_cut.f
  by_cases h : (a0.size : Int) > 500
  · rw [if_pos h, if_pos (by decide), if_pos (by omega)]
    exact ⟨_, rfl, by simp; omega⟩
  · rw [if_neg h]; exact ⟨_, rfl, by omega⟩
theorem tokens_quote (t : ByteArray) (h : t.size ≤ 500) : say_Tokens.f ⟨(quoted t.data.toList).toArray⟩ = some ([⟨2, t, 0⟩], 0, 0) := by
  have hl := quoted_le t.data.toList
  have ht : t.data.toList.length = t.size := by simp
  have hs : (⟨(quoted t.data.toList).toArray⟩ : ByteArray).size = (quoted t.data.toList).length := by show Array.size _ = _; simp
  unfold say_Tokens.f
  rw [if_pos (by rw [hs]; omega), lexed_list]
  have hq := tok_quote t.data.toList []
  rw [List.append_nil] at hq
  have hb : blankLen false (quoted t.data.toList) = 0 := by unfold quoted blankLen; rw [if_neg (by decide), if_neg (by decide)]
  have hne : quoted t.data.toList ≠ [] := by unfold quoted; simp
  have he : lexL ((⟨(quoted t.data.toList).toArray⟩ : ByteArray).size + 1) (quoted t.data.toList) 0 = .ok [⟨2, t, 0⟩] := by
    have hn : (quoted t.data.toList).length ≠ 0 := by simpa using hne
    obtain ⟨m, hm⟩ : ∃ m, (⟨(quoted t.data.toList).toArray⟩ : ByteArray).size + 1 = m + 1 + 1 := ⟨(quoted t.data.toList).length - 1, by rw [hs]; omega⟩
    rw [hm, lexL, hb, List.drop_zero, if_neg hne, hq]
    dsimp only
    rw [show List.drop (0 + (quoted t.data.toList).length) (quoted t.data.toList) = [] from List.drop_eq_nil_of_le (by simp), show lexL (m + 1) [] (0 + 0 + (quoted t.data.toList).length) = .ok [] from rfl]
    rfl
  show (match lexL _ (quoted t.data.toList) 0 with | .ok l => some (l, (0 : Int), (0 : Int)) | .error p => some ([], (p : Int), 4)) = _
  rw [he]
theorem sayQuotes_pure : chartularylaw23_SayQuotes.Pure := by
  intro a0 _
  refine ⟨40, ?_⟩
  obtain ⟨t, ht, hs⟩ := cut_some a0
  unfold chartularylaw23_SayQuotes.f
  rw [ht]
  show ((say_Quoted.f t).bind _) = _
  have e1 : say_Quoted.f t = some ⟨(quoted t.data.toList).toArray⟩ := by unfold say_Quoted.f; rw [if_pos (by omega)]
  have e2 : chartularyref23_Quoted.f t = some ⟨(quoted t.data.toList).toArray⟩ := by unfold chartularyref23_Quoted.f; rw [if_pos (by omega)]
  rw [e1]
  show ((say_Tokens.f _).bind _) = _
  rw [tokens_quote t hs]
  show ((chartularyref23_Quoted.f t).bind _) = _
  rw [e2, awake_true]
  simp [rd_T28]

end Go.Proofs.Ytokkjnfdfbpphaa.A
namespace Go.Proofs.Ytokkjnfdfbpphaa.A
open Go.RowKit Go.Proofs.YtokkjnfdfbpphaaW.PrintWords Go.Proofs.YtokkjnfdfbpphaaW.PrintLast Go.Proofs.YtokkjnfdfbpphaaW.PrintMore
attribute [local go_sem] max2_int min2_int max_two min_two max_three min_three max_four min_four   -- for this text's walks alone
set_option linter.unusedVariables false
set_option linter.unusedSimpArgs false

/-! tokens without places; how a text falls into tokens, whatever stands behind it -/
def tkOf (s : S28) : Int × List UInt8 := (s.f0, s.f1.data.toList)
theorem unq_le' (l t : List UInt8) (k : Nat) (h : unq l = some (t, k)) : 0 < k ∧ k ≤ l.length := unq_le _ l t k (Nat.le_refl _) h
theorem tokL_le (l : List UInt8) (k : Int) (t : List UInt8) (m : Nat) (h : tokL l = some (k, t, m)) : 0 < m ∧ m ≤ l.length := by
  unfold tokL at h
  split at h
  · simp at h
  · rename_i c r
    split at h
    · rename_i hl
      simp only [Option.some.injEq, Prod.mk.injEq] at h
      obtain ⟨_, _, rfl⟩ := h
      refine ⟨?_, takeWhile_le _ _⟩
      rw [List.takeWhile_cons_of_pos (by simp [isWord, hl])]; simp
    · split at h
      · split at h
        · simp at h
        · simp only [Option.some.injEq, Prod.mk.injEq] at h
          obtain ⟨_, _, rfl⟩ := h
          have := takeWhile_le isDigit r
          simp; omega
      · split at h
        · cases hu : unq r with
          | none => rw [hu] at h; simp at h
          | some p =>
            rw [hu] at h
            simp only [Option.map_some, Option.some.injEq, Prod.mk.injEq] at h
            have := unq_le' r p.1 p.2 hu
            simp; omega
        · split at h
          · simp only [Option.some.injEq, Prod.mk.injEq] at h
            simp; omega
          · simp at h
theorem lexL_fuel : ∀ (n m : Nat) (l : List UInt8) (p : Nat), l.length < n → l.length < m → lexL n l p = lexL m l p
  | 0, _, _, _, h, _ => absurd h (Nat.not_lt_zero _)
  | _, 0, _, _, _, h => absurd h (Nat.not_lt_zero _)
  | n + 1, m + 1, l, p, hn, hm => by
    unfold lexL
    split
    · rfl
    · cases ht : tokL (l.drop (blankLen false l)) with
      | none => rfl
      | some q =>
        obtain ⟨k, t, j⟩ := q
        have hj := tokL_le _ k t j ht
        rw [List.length_drop] at hj
        dsimp only
        rw [lexL_fuel n m _ _ (by rw [List.length_drop]; omega) (by rw [List.length_drop]; omega)]
def lx (l : List UInt8) (p : Nat) : Except Nat (List S28) := lexL (l.length + 1) l p
theorem lexL_lx (n : Nat) (l : List UInt8) (p : Nat) (h : l.length < n) : lexL n l p = lx l p := lexL_fuel _ _ _ _ h (Nat.lt_succ_self _)
theorem lx_eq (l : List UInt8) (p : Nat) : lx l p =
    if l.drop (blankLen false l) = [] then .ok []
    else match tokL (l.drop (blankLen false l)) with
      | none => .error (p + blankLen false l)
      | some (k, t, m) => (lx (l.drop (blankLen false l + m)) (p + blankLen false l + m)).map fun r => (⟨k, ⟨t.toArray⟩, ((p + blankLen false l : Nat) : Int)⟩ : S28) :: r := by
  unfold lx
  rw [lexL]
  split
  · rfl
  · cases ht : tokL (l.drop (blankLen false l)) with
    | none => rfl
    | some q =>
      obtain ⟨k, t, j⟩ := q
      have hj := tokL_le _ k t j ht
      rw [List.length_drop] at hj
      dsimp only
      rw [lexL_fuel l.length _ _ _ (by rw [List.length_drop]; omega) (Nat.lt_succ_self _)]
def sepOK : List UInt8 → Prop
  | [] => True
  | c :: _ => isWord c = false
/-- A text that falls into these tokens, whatever stands behind it (false: if that is no word's byte). -/
def Lexes (f : Bool) (l : List UInt8) (ts : List (Int × List UInt8)) : Prop :=
  ∀ (r : List UInt8) (p : Nat), (f = true ∨ sepOK r) → ∃ qs : List S28, qs.map tkOf = ts ∧ lx (l ++ r) p = (lx r (p + l.length)).map (qs ++ ·)
theorem except_map_id {ε α : Type} (x : Except ε (List α)) : x.map (([] : List α) ++ ·) = x := by cases x <;> rfl
theorem Lexes.nil : Lexes true [] [] := fun r p _ => ⟨[], rfl, by rw [except_map_id]; rfl⟩
theorem Lexes.weak {f : Bool} {l : List UInt8} {ts : List (Int × List UInt8)} (h : Lexes true l ts) : Lexes f l ts := fun r p _ => h r p (.inl rfl)
theorem Lexes.append {f g : Bool} {a b : List UInt8} {ta tb : List (Int × List UInt8)} (ha : Lexes f a ta) (hb : Lexes g b tb) (hs : f = true ∨ (b ≠ [] ∧ sepOK b)) : Lexes g (a ++ b) (ta ++ tb) := by
  intro r p hr
  obtain ⟨qb, hqb, eb⟩ := hb r (p + a.length) hr
  obtain ⟨qa, hqa, ea⟩ := ha (b ++ r) p (by
    rcases hs with h | ⟨hn, h⟩
    · exact .inl h
    · right
      cases b with
      | nil => exact absurd rfl hn
      | cons c t => exact h)
  refine ⟨qa ++ qb, by simp [hqa, hqb], ?_⟩
  rw [List.append_assoc, ea, eb, except_map_map, List.length_append, Nat.add_assoc]
  congr 1
  funext x
  simp
/-- One token at a text's begin. -/
theorem lx_token (w r : List UInt8) (p : Nat) (k : Int) (t : List UInt8) (hw : w ≠ []) (hb : blankLen false (w ++ r) = 0) (ht : tokL (w ++ r) = some (k, t, w.length)) :
    lx (w ++ r) p = (lx r (p + w.length)).map (([⟨k, ⟨t.toArray⟩, (p : Int)⟩] : List S28) ++ ·) := by
  rw [lx_eq, hb, List.drop_zero, if_neg (by simp [hw]), ht]
  dsimp only
  rw [Nat.zero_add, List.drop_left]
  rfl
theorem Lexes.one {f : Bool} (w : List UInt8) (k : Int) (t : List UInt8) (hw : w ≠ []) (hb : ∀ r, blankLen false (w ++ r) = 0) (ht : ∀ r, (f = true ∨ sepOK r) → tokL (w ++ r) = some (k, t, w.length)) : Lexes f w [(k, t)] :=
  fun r p hr => ⟨[⟨k, ⟨t.toArray⟩, (p : Int)⟩], by simp [tkOf], lx_token w r p k t hw (hb r) (ht r hr)⟩
theorem lx_blank (c : UInt8) (hc : (c == 32 || c == 10 || c == 9) = true) (r : List UInt8) (p : Nat) : lx (c :: r) p = lx r (p + 1) := by
  have hb : blankLen false (c :: r) = blankLen false r + 1 := by rw [blankLen, if_pos hc]
  rw [lx_eq, lx_eq r, hb, List.drop_succ_cons]
  rw [show p + (blankLen false r + 1) = p + 1 + blankLen false r by omega]
  split
  · rfl
  · cases tokL (List.drop (blankLen false r) r) with
    | none => rfl
    | some q =>
      obtain ⟨k, t, j⟩ := q
      dsimp only
      rw [show blankLen false r + 1 + j = (blankLen false r + j) + 1 by omega, List.drop_succ_cons]
theorem Lexes.blank (c : UInt8) (hc : (c == 32 || c == 10 || c == 9) = true) : Lexes true [c] [] := fun r p _ => ⟨[], rfl, by
  rw [except_map_id]; exact lx_blank c hc r p⟩
theorem Lexes.mark (c : UInt8) (hc : isMark c = true) : Lexes true [c] [(3, [c])] := by
  have key : ∀ c : UInt8, isMark c = true → (c == 32 || c == 10 || c == 9) = false ∧ (c == 35) = false ∧ isLetter c = false ∧ (isDigit c || c == 45) = false ∧ (c == 34) = false := fun c => u8_all (p := fun c => isMark c = true → (c == 32 || c == 10 || c == 9) = false ∧ (c == 35) = false ∧ isLetter c = false ∧ (isDigit c || c == 45) = false ∧ (c == 34) = false) (by decide +kernel) c
  obtain ⟨h1, h2, h3, h4, h5⟩ := key c hc
  refine Lexes.one _ _ _ (by simp) (fun r => ?_) (fun r _ => ?_)
  · rw [List.singleton_append, blankLen, if_neg (by simp [h1]), if_neg (by simp [h2])]
  · rw [List.singleton_append, tokL, if_neg (by simp [h3]), if_neg (by simp [h4]), if_neg (by simp [h5]), if_pos hc]; rfl
theorem Lexes.quote (t : List UInt8) : Lexes true (quoted t) [(2, t)] := by
  refine Lexes.one _ _ _ (by simp [quoted]) (fun r => ?_) (fun r _ => tok_quote t r)
  unfold quoted; rw [List.cons_append, blankLen, if_neg (by decide), if_neg (by decide)]
theorem takeWhile_sep (p : UInt8 → Bool) (w r : List UInt8) (hw : ∀ c ∈ w, p c = true) (hr : ∀ c t, r = c :: t → p c = false) : (w ++ r).takeWhile p = w := by
  rw [List.takeWhile_append_of_pos hw]
  cases r with
  | nil => simp
  | cons c t => rw [List.takeWhile_cons_of_neg (by simp [hr c t rfl])]; simp
theorem sep_word {r : List UInt8} (h : sepOK r) : ∀ c t, r = c :: t → isWord c = false := by rintro c t rfl; exact h
theorem sep_digit {r : List UInt8} (h : sepOK r) : ∀ c t, r = c :: t → isDigit c = false := by
  rintro c t rfl
  have : isWord c = false := h
  simp [isWord] at this
  exact this.2
theorem Lexes.word (c : UInt8) (w : List UInt8) (hc : isLetter c = true) (hw : ∀ d ∈ w, isWord d = true) : Lexes false (c :: w) [(0, c :: w)] := by
  have key : (c == 32 || c == 10 || c == 9) = false ∧ (c == 35) = false := u8_all (p := fun c => isLetter c = true → (c == 32 || c == 10 || c == 9) = false ∧ (c == 35) = false) (by decide +kernel) c hc
  refine Lexes.one _ _ _ (by simp) (fun r => ?_) (fun r hr => ?_)
  · rw [List.cons_append, blankLen, if_neg (by simp [key.1]), if_neg (by simp [key.2])]
  · have hs : sepOK r := hr.resolve_left (by decide)
    have hm : ∀ d ∈ c :: w, isWord d = true := by
      intro d hd
      rcases List.mem_cons.1 hd with h | h
      · rw [h]; simp [isWord, hc]
      · exact hw d h
    have ht : (c :: (w ++ r)).takeWhile isWord = c :: w := takeWhile_sep isWord (c :: w) r hm (sep_word hs)
    rw [List.cons_append, tokL, if_pos hc, ht]
/-- Digits, with or without a - ahead. -/
theorem Lexes.number (c : UInt8) (w : List UInt8) (hc : (isDigit c || c == 45) = true) (hw : ∀ d ∈ w, isDigit d = true) (hm : c = 45 → w ≠ []) : Lexes false (c :: w) [(1, c :: w)] := by
  have key : (c == 32 || c == 10 || c == 9) = false ∧ (c == 35) = false ∧ isLetter c = false := u8_all (p := fun c => (isDigit c || c == 45) = true → (c == 32 || c == 10 || c == 9) = false ∧ (c == 35) = false ∧ isLetter c = false) (by decide +kernel) c hc
  refine Lexes.one _ _ _ (by simp) (fun r => ?_) (fun r hr => ?_)
  · rw [List.cons_append, blankLen, if_neg (by simp [key.1]), if_neg (by simp [key.2.1])]
  · have hs : sepOK r := hr.resolve_left (by decide)
    have ht : (w ++ r).takeWhile isDigit = w := takeWhile_sep isDigit w r hw (sep_digit hs)
    rw [List.cons_append, tokL, if_neg (by simp [key.2.2]), if_pos hc, ht, if_neg (by
      intro h
      simp only [Bool.and_eq_true, beq_iff_eq, List.isEmpty_iff] at h
      exact hm h.1 h.2)]
    rfl
theorem Lexes.sep {l : List UInt8} {ts : List (Int × List UInt8)} (h : Lexes false l ts) (c : UInt8) (hc : (c == 32 || c == 10 || c == 9) = true) : Lexes true (l ++ [c]) ts := by
  have hw : isWord c = false := u8_all (p := fun c => (c == 32 || c == 10 || c == 9) = true → isWord c = false) (by decide +kernel) c hc
  have := Lexes.append h (Lexes.blank c hc) (.inr ⟨by simp, hw⟩)
  rwa [List.append_nil] at this
/-- What Tokens tells of a text that falls into tokens. -/
theorem tokens_ok {l : List UInt8} {ts : List (Int × List UInt8)} (h : Lexes false l ts) (hl : l.length ≤ 65536) : ∃ qs : List S28, qs.map tkOf = ts ∧ say_Tokens.f ⟨l.toArray⟩ = some (qs, 0, 0) := by
  obtain ⟨qs, hq, e⟩ := h [] 0 (.inr trivial)
  refine ⟨qs, hq, ?_⟩
  have hs : (⟨l.toArray⟩ : ByteArray).size = l.length := by show Array.size _ = _; simp
  unfold say_Tokens.f
  rw [if_pos (by omega), lexed_list, lexL_lx _ _ _ (by simp [hs])]
  rw [List.append_nil] at e
  show (match lx l 0 with | .ok l => some (l, (0 : Int), (0 : Int)) | .error p => some ([], (p : Int), 4)) = _
  rw [e]
  simp [lx, lexL, blankLen, Except.map]

end Go.Proofs.Ytokkjnfdfbpphaa.A
namespace Go.Proofs.Ytokkjnfdfbpphaa.A
open Go.RowKit Go.Proofs.YtokkjnfdfbpphaaW.PrintWords Go.Proofs.YtokkjnfdfbpphaaW.PrintLast Go.Proofs.YtokkjnfdfbpphaaW.PrintMore
attribute [local go_sem] max2_int min2_int max_two min_two max_three min_three max_four min_four   -- for this text's walks alone
set_option linter.unusedVariables false
set_option linter.unusedSimpArgs false

/-- The digit of weight 16^m of a number in signs of 16. -/
def hexD (b m : Nat) : UInt8 := hexDigit (b / 16 ^ m % 16)
def hexTop (b j : Nat) : List UInt8 := (List.range j).map fun i => hexD b (15 - i)
def hexLow (b j : Nat) : List UInt8 := (List.range j).reverse.map fun i => hexD b i
def hex16 (b : Nat) : List UInt8 := hexTop b 16
theorem hexLow_16 (b : Nat) : hexLow b 16 = hex16 b := rfl
theorem hexTop_succ (b j : Nat) : hexTop b (j + 1) = hexTop b j ++ [hexD b (15 - j)] := by unfold hexTop; rw [List.range_succ, List.map_append]; rfl
theorem hexLow_succ (b j : Nat) : hexLow b (j + 1) = hexD b j :: hexLow b j := by unfold hexLow; rw [List.range_succ]; simp
theorem hexTop_length (b j : Nat) : (hexTop b j).length = j := by simp [hexTop]
theorem hexLow_length (b j : Nat) : (hexLow b j).length = j := by simp [hexLow]
def floatText (b : Nat) : List UInt8 := [102, 108, 111, 97, 116, 40] ++ quoted (hex16 b) ++ [41]
def nums (l : List UInt8) : List Int := l.map fun c => (c.toNat : Int)
theorem strOfNums_nums (l : List UInt8) : strOfNums (nums l) = ⟨l.toArray⟩ := by
  unfold strOfNums nums
  apply ba_ext
  have e : ((fun n : Int => UInt8.ofNat n.toNat) ∘ fun c : UInt8 => (c.toNat : Int)) = id := by funext c; simp
  simp [e]
theorem wraps_u64 (n : Int) (h₀ : 0 ≤ n) (h₁ : n < 2 ^ 64) : IntKind.u64.wrap n = n := by simp only [IntKind.wrap, IntKind.bits, IntKind.signed]; simp; omega
theorem u64_and15 (n : Int) (h₀ : 0 ≤ n) (h₁ : n < 18446744073709551616) : bits .and .u64 n 15 = n % 16 := bits_mask .u64 64 (by decide) wraps_u64 4 (by decide) n h₀ (by simpa using h₁)
theorem bt_hex (n : Nat) (h : n < 16) : bt (⟨#[48, 49, 50, 51, 52, 53, 54, 55, 56, 57, 97, 98, 99, 100, 101, 102]⟩ : ByteArray) (n : Int) = ((hexDigit n).toNat : Int) := by
  have key : ∀ m : Fin 16, bt (⟨#[48, 49, 50, 51, 52, 53, 54, 55, 56, 57, 97, 98, 99, 100, 101, 102]⟩ : ByteArray) (m.1 : Int) = ((hexDigit m.1).toNat : Int) := by decide
  exact key ⟨n, h⟩
theorem nums_snoc (l : List UInt8) (c : UInt8) : nums l ++ [(c.toNat : Int)] = nums (l ++ [c]) := by simp [nums]
theorem hex_shift (b j : Nat) (h : j < 16) : b / 2 ^ (60 - 4 * j) = b / 16 ^ (15 - j) := by
  rw [show 60 - 4 * j = 4 * (15 - j) by omega, Nat.pow_mul]
theorem floatText_length (b : Nat) : (floatText b).length ≤ 80 := by
  have := quoteBody_le (hex16 b)
  have h : (hex16 b).length = 16 := hexTop_length b 16
  unfold floatText quoted; simp; omega

end Go.Proofs.Ytokkjnfdfbpphaa.A
namespace Go.Proofs.Ytokkjnfdfbpphaa.A
open Go.RowKit Go.Proofs.YtokkjnfdfbpphaaW.PrintWords Go.Proofs.YtokkjnfdfbpphaaW.PrintLast Go.Proofs.YtokkjnfdfbpphaaW.PrintMore
attribute [local go_sem] max2_int min2_int max_two min_two max_three min_three max_four min_four   -- for this text's walks alone
set_option linter.unusedVariables false
set_option linter.unusedSimpArgs false

/-! ### say_count: function 54 -/
mutual
def say_count.l0 : Nat → Int → List Int → Option (ByteArray)
  | 0, _, _ => none
  | k + 1, x0, x3 => if x0 > 9 then (if x3.length < 140737488355328 then (say_count.l0 k (IntKind.u64.wrap (Int.tdiv x0 10)) (x3 ++ [(IntKind.u64.wrap (48 + (Int.tmod x0 10))) % 256])) else (none)) else (if x3.length < 140737488355328 then ((some (x3 ++ [(IntKind.u64.wrap (48 + x0)) % 256] : List Int)).bind fun y250 => (say_count.l1 k y250 0 (wrap64 ((y250.length : Int) - 1)))) else (none))
def say_count.l1 : Nat → List Int → Int → Int → Option (ByteArray)
  | 0, _, _, _ => none
  | k + 1, x3, x4, x5 => if x4 < x5 then (if 0 ≤ x5 then (if x5 < (x3.length : Int) then (if 0 ≤ x4 then (if x4 < (x3.length : Int) then (say_count.l1 k ((x3.set (x4 : Int).toNat (rd x3 x5)).set (x5 : Int).toNat (rd x3 x4)) (wrap64 (x4 + 1)) (wrap64 (x5 - 1))) else (none)) else (none)) else (none)) else (none)) else (some (strOfNums x3))
end
def say_count.f (k : Nat) (a0 : Int) : Option (ByteArray) := say_count.l0 k a0 ([] : List Int)
theorem say_count.mono_l : ∀ k, (∀ y0 y1, LeO (say_count.l0 k y0 y1) (say_count.l0 (k + 1) y0 y1)) ∧ (∀ y0 y1 y2, LeO (say_count.l1 k y0 y1 y2) (say_count.l1 (k + 1) y0 y1 y2))
  | 0 => ⟨fun _ _ r h => by simp [say_count.l0] at h, fun _ _ _ r h => by simp [say_count.l1] at h⟩
  | k + 1 => by
    obtain ⟨ih0, ih1⟩ := say_count.mono_l k
    refine ⟨?_, ?_⟩
    · intro y0 y1
      unfold say_count.l0
      repeat' first
      | (with_reducible exact ih0 _ _)
      | (with_reducible exact ih1 _ _ _)
      | (with_reducible exact LeO.refl _)
      | (with_reducible exact LeO.none _)
      | (with_reducible refine LeO.ite ?_ ?_)
      | (with_reducible refine LeO.bind ?_ (fun _ => ?_))
      | exact ih0 _ _
      | exact ih1 _ _ _
      | exact LeO.none _
      | refine LeO.ite ?_ ?_
      | refine LeO.bind ?_ (fun _ => ?_)
    · intro y0 y1 y2
      unfold say_count.l1
      repeat' first
      | (with_reducible exact ih0 _ _)
      | (with_reducible exact ih1 _ _ _)
      | (with_reducible exact LeO.refl _)
      | (with_reducible exact LeO.none _)
      | (with_reducible refine LeO.ite ?_ ?_)
      | (with_reducible refine LeO.bind ?_ (fun _ => ?_))
      | exact ih0 _ _
      | exact ih1 _ _ _
      | exact LeO.none _
      | refine LeO.ite ?_ ?_
      | refine LeO.bind ?_ (fun _ => ?_)
theorem say_count.mono : ∀ a0 k, LeO (say_count.f k a0) (say_count.f (k + 1) a0) := by
  intro a0 k
  obtain ⟨ih0, ih1⟩ := say_count.mono_l k
  unfold say_count.f
  repeat' first
      | (with_reducible exact ih0 _ _)
      | (with_reducible exact ih1 _ _ _)
      | (with_reducible exact LeO.refl _)
      | (with_reducible exact LeO.none _)
      | (with_reducible refine LeO.ite ?_ ?_)
      | (with_reducible refine LeO.bind ?_ (fun _ => ?_))
      | exact ih0 _ _
      | exact ih1 _ _ _
      | exact LeO.none _
      | refine LeO.ite ?_ ?_
      | refine LeO.bind ?_ (fun _ => ?_)
def say_count.T9 : Bool × List (List Nat × List Nat) := (true, [([], []), ([], []), ([], []), ([], []), ([], []), ([], []), ([4, 5], [4, 5]), ([6], [6]), ([], []), ([], []), ([8, 9], [8, 9]), ([10], [10]), ([0, 1, 0, 1, 4, 5, 6, 7, 11], [0, 1]), ([12, 7, 0, 1, 4, 5, 6, 7, 11], [7, 12]), ([2, 3, 0, 1, 2, 3, 4, 5, 6, 7, 8, 9, 10, 11, 12, 13], [2, 3]), ([14, 11, 13, 0, 1, 2, 3, 4, 5, 6, 7, 8, 9, 10, 11, 12, 13], [11, 14])])
def say_count.B9 : List Nat := [0, 0, 0, 0, 0, 0, 48, 112, 0, 0, 768, 1792, 4083, 8179, 16383, 32767]
theorem say_count.tab9 : rtab .any (opsOf Try.f54 9) = say_count.T9 := by kernel_rfl
theorem say_count.bits9 : waitsOk say_count.T9.2 say_count.B9 = true := by kernel_rfl
set_option maxHeartbeats 8000000 in
set_option maxRecDepth 100000 in
theorem say_count.calls (k : Nat) (a0 : Int) (r : ByteArray) (w : World) (h : say_count.f k a0 = some r) :
    Calls Try.prog 54 #[.int .u64 a0] w fun e w' => e = .returned (.string r) ∧ Below w.heap.size w w' := by
  have HB := Aside0.mk (Below.refl w.heap.size w)
  have H : (say_count.l0 k a0 ([] : List Int)) = some r := h
  clear h
  have H' := Aside0.mk H
  clear H
  go_enter Try.func54, Try.ntmps54
  go_wp2
  go_loopg [0, 3] k (fun kq v0 v3 w' => ∃ (x0_1 : Int) (x3_1 : List Int), v0 = .int .u64 x0_1 ∧ Aside0 (say_count.l0 kq x0_1 x3_1 = some r) ∧ Aside0 (kq ≤ k) ∧ Aside0 (Kd.R (Kd.int .u8) 5 w' w.heap.size (fun _ => True) v3 x3_1) ∧ Aside0 (Below w.heap.size w w'))
  case atStart => exact ⟨(a0), (([] : List Int)), (by first | rfl | (simp; done) | (simp [*]; done)), H', ⟨Nat.le_refl _⟩, ⟨by first | exact Kd.R_nil _ _ _ _ _ | exact Kd.N_nil _ _ _ _ _ | exact Kd.V_nil _ _ _ _ _ | exact Kd.Q_nil _ _ _ _ _ | exact Kd.S_nil _ _ _ _ _⟩, ⟨by repeat (first | (with_reducible first | exact HB.out | apply below_alloc | apply pw_below_drewN | apply below_drew1) | exact HB.out)⟩⟩
  case round =>
    clear H'
    obtain ⟨x0_1, x3_1, rfl, HA, HK1, HO_3, HB⟩ := hrel
    cases gk with
    | zero => exact absurd HA.out (by simp [say_count.l0])
    | succ k1 =>
      have H := HA.out
      clear HA
      simp only [say_count.l0] at H
      by_cases c2 : x0_1 > 9
      · rw [if_pos c2] at H
        have c2b0 : decide (9 < x0_1) = true := decide_eq_true c2
        clear c2
        by_cases c3 : x3_1.length < 140737488355328
        · rw [if_pos c3] at H
          have LMc3 := Aside0.mk c3
          clear c3
          obtain ⟨y247, hy247⟩ : ∃ y_ : List Int, y_ = (x3_1 ++ [(IntKind.u64.wrap (48 + (Int.tmod x0_1 10))) % 256]) := ⟨_, rfl⟩
          replace H : (say_count.l0 k1 (IntKind.u64.wrap (Int.tdiv x0_1 10)) y247) = some r := by first | (rw [hy247]; with_reducible exact H) | (have H2_ := (Option.bind_some _ _).symm.trans H; rw [hy247]; with_reducible exact H2_) | (have H2_ := (Option.bind_some _ _).symm.trans H; with_reducible exact H2_) | with_reducible exact H | (rw [hy247]; exact H) | exact H
          have Ny247 := Aside0.mk hy247
          clear hy247
          have H' := Aside0.mk H
          clear H
          go_wp2_with (first | ((with_reducible refine gate_builtin (b := .append) (xs := #[.tmp 10, .tmp 15]) rfl ?_); at_builtin; refine Kd.R_append (Kd.int .u8) (w0 := w) w.heap.size rfl (.tmp 10) (.tmp 15) 55 5 (.int .u8 0) 1 rfl Try.underlying55 info5 rfl (by decide) (by omega) u3 x3_1 ((IntKind.u64.wrap (48 + (Int.tmod x0_1 10))) % 256) [.int .u8 ((IntKind.u64.wrap (48 + (Int.tmod x0_1 10))) % 256)] (fun _ => True) (fun _ => False) rfl rfl ?aP (fun _ hk => hk.elim) ?aF ?aO ?aB ?aS ?aL ?_; (case aP => exact rfl); (case aB => exact (by repeat (first | (with_reducible first | exact HB.out | apply below_alloc | apply pw_below_drewN | apply below_drew1) | exact HB.out))); (case aF => exact (fun _ _ => trivial)); (case aO => exact (by (with_reducible repeat (first | apply Kd.R_alloc | apply Kd.R_drewN | apply Kd.R_drew)); exact HO_3.out)); (case aS => exact (below_size (by repeat (first | (with_reducible first | exact HB.out | apply below_alloc | apply pw_below_drewN | apply below_drew1) | exact HB.out)))); (case aL => have := LMc3.out; omega); intro v248 w4 ho hb hg hat; rw [← Ny247.out] at ho; have n0_ := Aside0.mk (hb); have n1_ := Aside0.mk (ho); clear HB; clear HO_3; have HB := n0_; have HO249 := n1_; clear n0_ n1_; clear ho hb hg hat))
          go_roundg k1
          case measure => have := HK1.out; omega
          case rel => exact ⟨(IntKind.u64.wrap (Int.tdiv x0_1 10)), (y247), (by first | rfl | (simp; done) | (simp [*]; done)), H', ⟨by have := HK1.out; omega⟩, ⟨by (with_reducible repeat (first | apply Kd.R_alloc | apply Kd.R_drewN | apply Kd.R_drew)); exact HO249.out⟩, ⟨by repeat (first | (with_reducible first | exact HB.out | apply below_alloc | apply pw_below_drewN | apply below_drew1) | exact HB.out)⟩⟩
        · rw [if_neg c3] at H
          exact absurd H (by simp)
      · rw [if_neg c2] at H
        have c2b0 : decide (9 < x0_1) = false := decide_eq_false c2
        clear c2
        by_cases c5 : x3_1.length < 140737488355328
        · rw [if_pos c5] at H
          have LMc5 := Aside0.mk c5
          clear c5
          obtain ⟨y250, hy250⟩ : ∃ y_ : List Int, y_ = (x3_1 ++ [(IntKind.u64.wrap (48 + x0_1)) % 256]) := ⟨_, rfl⟩
          replace H : (say_count.l1 k1 y250 0 (wrap64 ((y250.length : Int) - 1))) = some r := by first | (rw [hy250]; with_reducible exact H) | (have H2_ := (Option.bind_some _ _).symm.trans H; rw [hy250]; with_reducible exact H2_) | (have H2_ := (Option.bind_some _ _).symm.trans H; with_reducible exact H2_) | with_reducible exact H | (rw [hy250]; exact H) | exact H
          have Ny250 := Aside0.mk hy250
          clear hy250
          have H' := Aside0.mk H
          clear H
          go_wp2_with (first | ((with_reducible refine gate_builtin (b := .append) (xs := #[.tmp 17, .tmp 21]) rfl ?_); at_builtin; refine Kd.R_append (Kd.int .u8) (w0 := w) w.heap.size rfl (.tmp 17) (.tmp 21) 55 5 (.int .u8 0) 1 rfl Try.underlying55 info5 rfl (by decide) (by omega) u3 x3_1 ((IntKind.u64.wrap (48 + x0_1)) % 256) [.int .u8 ((IntKind.u64.wrap (48 + x0_1)) % 256)] (fun _ => True) (fun _ => False) rfl rfl ?aP (fun _ hk => hk.elim) ?aF ?aO ?aB ?aS ?aL ?_; (case aP => exact rfl); (case aB => exact (by repeat (first | (with_reducible first | exact HB.out | apply below_alloc | apply pw_below_drewN | apply below_drew1) | exact HB.out))); (case aF => exact (fun _ _ => trivial)); (case aO => exact (by (with_reducible repeat (first | apply Kd.R_alloc | apply Kd.R_drewN | apply Kd.R_drew)); exact HO_3.out)); (case aS => exact (below_size (by repeat (first | (with_reducible first | exact HB.out | apply below_alloc | apply pw_below_drewN | apply below_drew1) | exact HB.out)))); (case aL => have := LMc5.out; omega); intro v251 w6 ho hb hg hat; rw [← Ny250.out] at ho; have n0_ := Aside0.mk (hb); have n1_ := Aside0.mk (ho); clear HB; clear HO_3; have HB := n0_; have HO252 := n1_; clear n0_ n1_; clear ho hb hg hat; obtain ⟨Ao7, co7, eo7⟩ := Kd.R_slice HO252.out; subst eo7))
          go_loopg [4, 5] k1 (fun kq v4 v5 w' => ∃ (x3_2 : List Int) (x4_2 : Int) (x5_2 : Int), v4 = .int .i64 x4_2 ∧ v5 = .int .i64 x5_2 ∧ Aside0 (say_count.l1 kq x3_2 x4_2 x5_2 = some r) ∧ Aside0 (kq ≤ k1) ∧ Aside0 (Kd.R (Kd.int .u8) 5 w' w.heap.size (fun _ => True) (.slice Ao7 y250.length co7) x3_2) ∧ Aside0 (Below w.heap.size w w'))
          case atStart => exact ⟨(y250), (0), (wrap64 ((y250.length : Int) - 1)), (by first | rfl | (simp; done) | (simp [*]; done)), (by first | rfl | (simp; done) | (simp [*]; done)), H', ⟨Nat.le_refl _⟩, ⟨by (with_reducible repeat (first | apply Kd.R_alloc | apply Kd.R_drewN | apply Kd.R_drew)); exact HO252.out⟩, ⟨by repeat (first | (with_reducible first | exact HB.out | apply below_alloc | apply pw_below_drewN | apply below_drew1) | exact HB.out)⟩⟩
          case round =>
            clear H'
            try clear c2
            try clear c2b0
            try clear p2
            try clear c3
            try clear c5
            try clear p6
            obtain ⟨x3_2, x4_2, x5_2, rfl, rfl, HA, HK2, HO_3, HB⟩ := hrel
            have hl3_2 := (Kd.R_reads' HO_3.out).1
            rw [hl3_2] at HO_3
            (try simp only [hl3_2])
            cases gk with
            | zero => exact absurd HA.out (by simp [say_count.l1])
            | succ k2 =>
              have H := HA.out
              clear HA
              simp only [say_count.l1] at H
              by_cases c8 : x4_2 < x5_2
              · rw [if_pos c8] at H
                have c8b0 : decide (x4_2 < x5_2) = true := decide_eq_true c8
                clear c8
                by_cases c9 : 0 ≤ x5_2
                · rw [if_pos c9] at H
                  have c9b0 : decide (0 ≤ x5_2) = true := decide_eq_true c9
                  clear c9
                  by_cases c10 : x5_2 < (x3_2.length : Int)
                  · rw [if_pos c10] at H
                    have c10b0 : decide (x5_2 < (x3_2.length : Int)) = true := decide_eq_true c10
                    clear c10
                    by_cases c11 : 0 ≤ x4_2
                    · rw [if_pos c11] at H
                      have c11b0 : decide (0 ≤ x4_2) = true := decide_eq_true c11
                      clear c11
                      by_cases c12 : x4_2 < (x3_2.length : Int)
                      · rw [if_pos c12] at H
                        have c12b0 : decide (x4_2 < (x3_2.length : Int)) = true := decide_eq_true c12
                        clear c12
                        obtain ⟨y255, hy255⟩ : ∃ y_ : List Int, y_ = (x3_2.set (x4_2 : Int).toNat (rd x3_2 x5_2)) := ⟨_, rfl⟩
                        replace H : (say_count.l1 k2 (y255.set (x5_2 : Int).toNat (rd x3_2 x4_2)) (wrap64 (x4_2 + 1)) (wrap64 (x5_2 - 1))) = some r := by first | (rw [hy255]; with_reducible exact H) | (have H2_ := (Option.bind_some _ _).symm.trans H; rw [hy255]; with_reducible exact H2_) | (have H2_ := (Option.bind_some _ _).symm.trans H; with_reducible exact H2_) | with_reducible exact H | (rw [hy255]; exact H) | exact H
                        have Ny255 := Aside0.mk hy255
                        clear hy255
                        obtain ⟨y256, hy256⟩ : ∃ y_ : List Int, y_ = (y255.set (x5_2 : Int).toNat (rd x3_2 x4_2)) := ⟨_, rfl⟩
                        replace H : (say_count.l1 k2 y256 (wrap64 (x4_2 + 1)) (wrap64 (x5_2 - 1))) = some r := by first | (rw [hy256]; with_reducible exact H) | (have H2_ := (Option.bind_some _ _).symm.trans H; rw [hy256]; with_reducible exact H2_) | (have H2_ := (Option.bind_some _ _).symm.trans H; with_reducible exact H2_) | with_reducible exact H | (rw [hy256]; exact H) | exact H
                        have Ny256 := Aside0.mk hy256
                        clear hy256
                        have H' := Aside0.mk H
                        clear H
                        try go_wp2
                        have n0_ := Aside0.mk (Kd.R_drew HO_3.out)
                        have n1_ := Aside0.mk (below_drew1 HB.out)
                        clear HO_3
                        clear HB
                        have HO_3 := n0_
                        have HB := n1_
                        clear n0_ n1_
                        have p253 : 0 ≤ (x5_2 : Int) := of_decide_eq_true (by first | (with_reducible assumption) | assumption)
                        have q253 : x5_2 < (x3_2.length : Int) := of_decide_eq_true (by first | (with_reducible assumption) | assumption)
                        obtain ⟨ad253, e253, hx253_0⟩ := Kd.at_int (Kd.R_reads' HO_3.out).2.2 x5_2 p253 q253
                        cases e253
                        replace p253 := eq_true p253
                        replace q253 := eq_true q253
                        have p254 : 0 ≤ (x4_2 : Int) := of_decide_eq_true (by first | (with_reducible assumption) | assumption)
                        have q254 : x4_2 < (x3_2.length : Int) := of_decide_eq_true (by first | (with_reducible assumption) | assumption)
                        obtain ⟨ad254, e254, hx254_0⟩ := Kd.at_int (Kd.R_reads' HO_3.out).2.2 x4_2 p254 q254
                        obtain rfl : ad253 = ad254 := (by injection e254)
                        replace p254 := eq_true p254
                        replace q254 := eq_true q254
                        have p13 : 0 ≤ (x4_2 : Int) := of_decide_eq_true (by first | (with_reducible assumption) | assumption)
                        have q13 : (x4_2 : Int) < ((x3_2.length : Int) : Int) := of_decide_eq_true (by first | (with_reducible assumption) | assumption)
                        obtain ⟨go13, co13, eo13, gb13, gl13, cl13, HG13⟩ := Kd.R_form HO_3.out (by omega)
                        (first | cases eo13 | (injection eo13 with ea_ en_ ec_; (first | subst ea_ | (injection ea_ with ea_; subst ea_)); subst ec_; clear en_))
                        have GB13 := Aside0.mk gb13
                        have GG13 := Aside0.mk HG13
                        clear gb13 gl13 HG13
                        (first | simp only [add_plain] at hx253_0 | skip)
                        (first | simp only [add_plain] at hx254_0 | skip)
                        obtain ⟨hx13_0, hf13_0⟩ := Kd.R_celln 0 HO_3.out (x4_2 : Int) p13 q13
                        replace p13 := eq_true p13
                        replace q13 := eq_true q13
                        have HP16 := Kd.R_putn HO_3.out (x4_2 : Int) (rd x3_2 x5_2)
                        rw [← Ny255.out] at HP16
                        have HQ16 := Aside0.mk HP16
                        clear HP16
                        have p14 : 0 ≤ (x5_2 : Int) := of_decide_eq_true (by first | (with_reducible assumption) | assumption)
                        have q14 : (x5_2 : Int) < ((x3_2.length : Int) : Int) := of_decide_eq_true (by first | (with_reducible assumption) | assumption)
                        obtain ⟨hx14_0, hf14_0⟩ := Kd.R_celln 0 HQ16.out (x5_2 : Int) p14 q14
                        replace p14 := eq_true p14
                        replace q14 := eq_true q14
                        have HP17 := Kd.R_putn HQ16.out (x5_2 : Int) (rd x3_2 x4_2)
                        rw [← Ny256.out] at HP17
                        have HQ17 := Aside0.mk HP17
                        clear HP17
                        refine start_ (n := 16) (S := fun w' => w'.cell? ⟨go13, (x5_2).toNat, none⟩ = some (.int .u8 (rd x3_2 x5_2)) ∧ w'.cell? ⟨go13, (x4_2).toNat, none⟩ = some (.int .u8 (rd x3_2 x4_2))) (ds := [13, 15]) #[false, false, false, false, false, false, false, false, false, false, false, false, false, false, false, false] (by kernel_rfl) rfl rfl ⟨hx253_0, hx254_0⟩ (fun hHeld => ?_); refine with_tabW say_count.tab9 say_count.bits9 (fun HT_ HW_ => ?_)
                        generalize wr.drew = w15 at HO_3 HB GG13 HQ16 HQ17 hf13_0 hf14_0 hx13_0 hx14_0 hx253_0 hx254_0 hHeld ⊢
                        refine pure_ (i := 0) (N := some 33) (v := ?_) (a' := ?_) #[true, false, false, false, false, false, false, false, false, false, false, false, false, false, false, false] rfl rfl (any_of HT_.out (by kernel_rfl)) (fun _ _ _ h => h) (Or.inl ⟨by rfl, ?_⟩) ?_ ?_
                        rotate_left
                        · intro w'
                          go_simp
                          with_reducible rfl
                        rotate_left
                        · simp only [Act.put, List.setIfInBounds_toArray, List.set_cons_zero, List.set_cons_succ, i64_w, i32_w]
                          rfl
                        refine pure_ (i := 1) (N := some 34) (v := ?_) (a' := ?_) #[true, true, false, false, false, false, false, false, false, false, false, false, false, false, false, false] rfl rfl (any_of HT_.out (by kernel_rfl)) (fun _ _ _ h => h) (Or.inl ⟨by rfl, ?_⟩) ?_ ?_
                        rotate_left
                        · intro w'
                          go_simp
                          with_reducible rfl
                        rotate_left
                        · simp only [Act.put, List.setIfInBounds_toArray, List.set_cons_zero, List.set_cons_succ, i64_w, i32_w]
                          rfl
                        refine pure_ (i := 2) (N := some 35) (v := ?_) (a' := ?_) #[true, true, true, false, false, false, false, false, false, false, false, false, false, false, false, false] rfl rfl (any_of HT_.out (by kernel_rfl)) (fun _ _ _ h => h) (Or.inl ⟨by rfl, ?_⟩) ?_ ?_
                        rotate_left
                        · intro w'
                          go_simp
                          with_reducible rfl
                        rotate_left
                        · simp only [Act.put, List.setIfInBounds_toArray, List.set_cons_zero, List.set_cons_succ, i64_w, i32_w]
                          rfl
                        refine pure_ (i := 3) (N := some 36) (v := ?_) (a' := ?_) #[true, true, true, true, false, false, false, false, false, false, false, false, false, false, false, false] rfl rfl (any_of HT_.out (by kernel_rfl)) (fun _ _ _ h => h) (Or.inl ⟨by rfl, ?_⟩) ?_ ?_
                        rotate_left
                        · intro w'
                          go_simp
                          with_reducible rfl
                        rotate_left
                        · simp only [Act.put, List.setIfInBounds_toArray, List.set_cons_zero, List.set_cons_succ, i64_w, i32_w]
                          rfl
                        refine pure_ (i := 4) (N := some 37) (v := ?_) (a' := ?_) #[true, true, true, true, true, false, false, false, false, false, false, false, false, false, false, false] rfl rfl (any_of HT_.out (by kernel_rfl)) (fun _ _ _ h => h) (Or.inl ⟨by rfl, ?_⟩) ?_ ?_
                        rotate_left
                        · intro w'
                          go_simp
                          with_reducible rfl
                        rotate_left
                        · simp only [Act.put, List.setIfInBounds_toArray, List.set_cons_zero, List.set_cons_succ, i64_w, i32_w]
                          rfl
                        refine pure_ (i := 5) (N := some 38) (v := ?_) (a' := ?_) #[true, true, true, true, true, true, false, false, false, false, false, false, false, false, false, false] rfl rfl (any_of HT_.out (by kernel_rfl)) (fun _ _ _ h => h) (Or.inl ⟨by rfl, ?_⟩) ?_ ?_
                        rotate_left
                        · intro w'
                          go_simp
                          with_reducible rfl
                        rotate_left
                        · simp only [Act.put, List.setIfInBounds_toArray, List.set_cons_zero, List.set_cons_succ, i64_w, i32_w]
                          rfl
                        refine pure_ (i := 6) (N := some 39) (v := ?_) (a' := ?_) #[true, true, true, true, true, true, true, false, false, false, false, false, false, false, false, false] rfl rfl (any_of HT_.out (by kernel_rfl)) (fun _ _ _ h => h) (Or.inl ⟨by rfl, ?_⟩) ?_ ?_
                        rotate_left
                        · intro w'
                          go_simp
                          with_reducible rfl
                        rotate_left
                        · simp only [Act.put, List.setIfInBounds_toArray, List.set_cons_zero, List.set_cons_succ, i64_w, i32_w]
                          rfl
                        refine pure_ (i := 8) (N := some 41) (v := ?_) (a' := ?_) #[true, true, true, true, true, true, true, false, true, false, false, false, false, false, false, false] rfl rfl (any_of HT_.out (by kernel_rfl)) (fun _ _ _ h => h) (Or.inl ⟨by rfl, ?_⟩) ?_ ?_
                        rotate_left
                        · intro w'
                          go_simp
                          with_reducible rfl
                        rotate_left
                        · simp only [Act.put, List.setIfInBounds_toArray, List.set_cons_zero, List.set_cons_succ, i64_w, i32_w]
                          rfl
                        refine pure_ (i := 9) (N := some 42) (v := ?_) (a' := ?_) #[true, true, true, true, true, true, true, false, true, true, false, false, false, false, false, false] rfl rfl (any_of HT_.out (by kernel_rfl)) (fun _ _ _ h => h) (Or.inl ⟨by rfl, ?_⟩) ?_ ?_
                        rotate_left
                        · intro w'
                          go_simp
                          with_reducible rfl
                        rotate_left
                        · simp only [Act.put, List.setIfInBounds_toArray, List.set_cons_zero, List.set_cons_succ, i64_w, i32_w]
                          rfl
                        refine pure_ (i := 10) (N := some 43) (v := ?_) (a' := ?_) #[true, true, true, true, true, true, true, false, true, true, true, false, false, false, false, false] rfl rfl (any_of HT_.out (by kernel_rfl)) (fun _ _ _ h => h) (Or.inl ⟨by rfl, ?_⟩) ?_ ?_
                        rotate_left
                        · intro w'
                          go_simp
                          with_reducible rfl
                        rotate_left
                        · simp only [Act.put, List.setIfInBounds_toArray, List.set_cons_zero, List.set_cons_succ, i64_w, i32_w]
                          rfl
                        refine take_ (i := 7) (N := some 40) (v := ?_) (a' := ?_) #[true, true, true, true, true, true, true, true, true, true, true, false, false, false, false, false] rfl rfl (take_ofW HT_.out HW_.out (by kernel_rfl)) (fun _ _ _ h => h) (Or.inl ⟨by rfl, ?_⟩) hHeld ?_ ?_
                        rotate_left
                        · rintro w' ⟨s0, s1⟩
                          go_simp
                          with_reducible rfl
                        rotate_left
                        · simp only [Act.put, List.setIfInBounds_toArray, List.set_cons_zero, List.set_cons_succ, i64_w, i32_w]
                          rfl
                        refine take_ (i := 11) (N := some 44) (v := ?_) (a' := ?_) #[true, true, true, true, true, true, true, true, true, true, true, true, false, false, false, false] rfl rfl (take_ofW HT_.out HW_.out (by kernel_rfl)) (fun _ _ _ h => h) (Or.inl ⟨by rfl, ?_⟩) hHeld ?_ ?_
                        rotate_left
                        · rintro w' ⟨s0, s1⟩
                          go_simp
                          with_reducible rfl
                        rotate_left
                        · simp only [Act.put, List.setIfInBounds_toArray, List.set_cons_zero, List.set_cons_succ, i64_w, i32_w]
                          rfl
                        refine pure_ (i := 12) (N := some 45) (v := ?_) (a' := ?_) #[true, true, true, true, true, true, true, true, true, true, true, true, true, false, false, false] rfl rfl (any_of HT_.out (by kernel_rfl)) (fun _ _ _ h => h) (Or.inl ⟨by rfl, ?_⟩) ?_ ?_
                        rotate_left
                        · intro w'
                          go_simp
                          with_reducible rfl
                        rotate_left
                        · simp only [Act.put, List.setIfInBounds_toArray, List.set_cons_zero, List.set_cons_succ, i64_w, i32_w]
                          rfl
                        refine last_ (i := 13) (N := none) #[true, true, true, true, true, true, true, true, true, true, true, true, true, true, false, false] rfl rfl (one_of HT_.out (by kernel_rfl)) (by decide) (fun K hK => ?_)
                        refine skip_ (w1 := ?_) (by rfl) rfl ?_ ?_
                        rotate_left
                        · go_simp
                          rfl
                        refine hK.out _ _ ?_
                        clear hK K
                        refine pure_ (i := 14) (N := some 46) (v := ?_) (a' := ?_) #[true, true, true, true, true, true, true, true, true, true, true, true, true, true, true, false] rfl rfl (any_of HT_.out (by kernel_rfl)) (fun _ _ _ h => h) (Or.inl ⟨by rfl, ?_⟩) ?_ ?_
                        rotate_left
                        · intro w'
                          go_simp
                          with_reducible rfl
                        rotate_left
                        · simp only [Act.put, List.setIfInBounds_toArray, List.set_cons_zero, List.set_cons_succ, i64_w, i32_w]
                          rfl
                        refine last_ (i := 15) (N := none) #[true, true, true, true, true, true, true, true, true, true, true, true, true, true, true, true] rfl rfl (one_of HT_.out (by kernel_rfl)) (by decide) (fun K hK => ?_)
                        refine skip_ (w1 := ?_) (by rfl) rfl ?_ ?_
                        rotate_left
                        · go_simp
                          rfl
                        refine hK.out _ _ ?_
                        clear hK K
                        refine done_ (done_of HT_.out (by kernel_rfl)) ?_
                        try go_wp2
                        (try simp only [← hl3_2])
                        go_roundg k2
                        case measure => have := HK1.out; have := HK2.out; omega
                        case rel => exact ⟨(y256), (wrap64 (x4_2 + 1)), (wrap64 (x5_2 - 1)), (by first | rfl | (simp; done) | (simp [*]; done)), (by first | rfl | (simp; done) | (simp [*]; done)), H', ⟨by have := HK1.out; have := HK2.out; omega⟩, ⟨by (try simp only [hl3_2]); (with_reducible repeat (first | apply Kd.R_alloc | apply Kd.R_drewN | apply Kd.R_drew)); exact HQ17.out⟩, ⟨by repeat (first | (with_reducible first | exact HB.out | apply below_alloc | apply pw_below_drewN | apply below_drew1 | refine below_set ?_ GB13.out | refine below_set ?_ GB13.out) | exact HB.out)⟩⟩
                      · rw [if_neg c12] at H
                        exact absurd H (by simp)
                    · rw [if_neg c11] at H
                      exact absurd H (by simp)
                  · rw [if_neg c10] at H
                    exact absurd H (by simp)
                · rw [if_neg c9] at H
                  exact absurd H (by simp)
              · rw [if_neg c8] at H
                have c8b0 : decide (x4_2 < x5_2) = false := decide_eq_false c8
                clear c8
                obtain rfl := Option.some.inj H
                have hcv18 := own_string (P := Try.prog) Try.underlying55 Try.underlying5 Try.underlying9 (Kd.own_of_R HO_3.out)
                go_wp2
                go_ret
                exact ⟨by first | rfl | (simp [errW_none, errW_some] <;> rfl) | (simp [*, errW_none, errW_some] <;> rfl), by repeat (first | (with_reducible first | exact HB.out | apply below_alloc | apply pw_below_drewN | apply below_drew1) | exact HB.out)⟩
        · rw [if_neg c5] at H
          exact absurd H (by simp)

end Go.Proofs.Ytokkjnfdfbpphaa.A
namespace Go.Proofs.Ytokkjnfdfbpphaa.A
open Go.RowKit Go.Proofs.YtokkjnfdfbpphaaW.PrintWords Go.Proofs.YtokkjnfdfbpphaaW.PrintLast Go.Proofs.YtokkjnfdfbpphaaW.PrintMore
attribute [local go_sem] max2_int min2_int max_two min_two max_three min_three max_four min_four   -- for this text's walks alone
set_option linter.unusedVariables false
set_option linter.unusedSimpArgs false

/-! ### say_whole: function 31 -/
def say_whole.f (k : Nat) (a0 : Int) : Option (ByteArray) := if a0 < 0 then ((say_count.f k (IntKind.u64.wrap (-(IntKind.u64.wrap (a0))))).bind fun t257 => (if 1 + t257.size ≤ 9223372036854775807 then (some ((⟨#[45]⟩ : ByteArray) ++ t257)) else (none))) else ((say_count.f k (IntKind.u64.wrap (a0))).bind fun t258 => (some t258))
theorem say_whole.mono : ∀ a0 k, LeO (say_whole.f k a0) (say_whole.f (k + 1) a0) := by
  intro a0 k
  unfold say_whole.f
  repeat' first
      | (with_reducible exact say_count.mono _ _)
      | (with_reducible exact LeO.refl _)
      | (with_reducible exact LeO.none _)
      | (with_reducible refine LeO.ite ?_ ?_)
      | (with_reducible refine LeO.bind ?_ (fun _ => ?_))
      | exact say_count.mono _ _
      | exact LeO.none _
      | refine LeO.ite ?_ ?_
      | refine LeO.bind ?_ (fun _ => ?_)
set_option maxHeartbeats 8000000 in
set_option maxRecDepth 100000 in
theorem say_whole.calls (k : Nat) (a0 : Int) (r : ByteArray) (w : World) (h : say_whole.f k a0 = some r) :
    Calls Try.prog 31 #[.int .i64 a0] w fun e w' => e = .returned (.string r) ∧ Below w.heap.size w w' := by
  have HB := Aside0.mk (Below.refl w.heap.size w)
  have H : (if a0 < 0 then ((say_count.f k (IntKind.u64.wrap (-(IntKind.u64.wrap (a0))))).bind fun t257 => (if 1 + t257.size ≤ 9223372036854775807 then (some ((⟨#[45]⟩ : ByteArray) ++ t257)) else (none))) else ((say_count.f k (IntKind.u64.wrap (a0))).bind fun t258 => (some t258))) = some r := h
  clear h
  by_cases c2 : a0 < 0
  · rw [if_pos c2] at H
    have c2b0 : decide (a0 < 0) = true := decide_eq_true c2
    clear c2
    replace H := Option.bind_eq_some_iff.mp H
    obtain ⟨t257, A30, H⟩ := H
    replace H : (if 1 + t257.size ≤ 9223372036854775807 then (some ((⟨#[45]⟩ : ByteArray) ++ t257)) else (none)) = some r := H
    have A3 := Aside0.mk A30
    clear A30
    by_cases c4 : 1 + t257.size ≤ 9223372036854775807
    · rw [if_pos c4] at H
      have c4b0 := eq_true c4
      have c4b1 : decide (1 + t257.size ≤ 9223372036854775807) = true := decide_eq_true c4
      try have c4b2 : (9223372036854775807 < 1 + t257.size) = False := eq_false (Nat.not_lt.2 c4)
      obtain rfl := Option.some.inj H
      go_enter Try.func31, Try.ntmps31
      go_wp2_with (first | ((with_reducible refine gate_callee (f := 54) rfl ?_); refine goesL_ (some 8) rfl rfl Try.func54 (by kernel_rfl) rfl #[.int .u64 (IntKind.u64.wrap (-(IntKind.u64.wrap (a0))))] rfl (by (try simp only [List.map_toArray, List.map_cons, List.map_nil]); first | done | rfl | (simp only [List.length_drop, List.length_take]; rfl)) ?_; (with_reducible refine (say_count.calls k (IntKind.u64.wrap (-(IntKind.u64.wrap (a0)))) t257 _ A3.out).mono ?_); rintro e w5 ⟨rfl, hb⟩; refine ⟨_, rfl, ?_⟩; have n0_ := Aside0.mk (below_step (by repeat (first | (with_reducible first | exact HB.out | apply below_alloc | apply pw_below_drewN | apply below_drew1) | exact HB.out)) hb); clear HB; have HB := n0_; clear n0_; (try clear hb); (try clear hb2); (try clear hk); (try clear hi)))
      go_ret
      exact ⟨by first | rfl | (simp [errW_none, errW_some] <;> rfl) | (simp [*, errW_none, errW_some] <;> rfl), by repeat (first | (with_reducible first | exact HB.out | apply below_alloc | apply pw_below_drewN | apply below_drew1) | exact HB.out)⟩
    · rw [if_neg c4] at H
      exact absurd H (by simp)
  · rw [if_neg c2] at H
    have c2b0 : decide (a0 < 0) = false := decide_eq_false c2
    clear c2
    replace H := Option.bind_eq_some_iff.mp H
    obtain ⟨t258, A60, H⟩ := H
    replace H : (some t258) = some r := H
    have A6 := Aside0.mk A60
    clear A60
    obtain rfl := Option.some.inj H
    go_enter Try.func31, Try.ntmps31
    go_wp2_with (first | ((with_reducible refine gate_callee (f := 54) rfl ?_); refine goesL_ (some 12) rfl rfl Try.func54 (by kernel_rfl) rfl #[.int .u64 (IntKind.u64.wrap (a0))] rfl (by (try simp only [List.map_toArray, List.map_cons, List.map_nil]); first | done | rfl | (simp only [List.length_drop, List.length_take]; rfl)) ?_; (with_reducible refine (say_count.calls k (IntKind.u64.wrap (a0)) t258 _ A6.out).mono ?_); rintro e w7 ⟨rfl, hb⟩; refine ⟨_, rfl, ?_⟩; have n0_ := Aside0.mk (below_step (by repeat (first | (with_reducible first | exact HB.out | apply below_alloc | apply pw_below_drewN | apply below_drew1) | exact HB.out)) hb); clear HB; have HB := n0_; clear n0_; (try clear hb); (try clear hb2); (try clear hk); (try clear hi)))
    go_ret
    exact ⟨by first | rfl | (simp [errW_none, errW_some] <;> rfl) | (simp [*, errW_none, errW_some] <;> rfl), by repeat (first | (with_reducible first | exact HB.out | apply below_alloc | apply pw_below_drewN | apply below_drew1) | exact HB.out)⟩

end Go.Proofs.Ytokkjnfdfbpphaa.A
namespace Go.Proofs.Ytokkjnfdfbpphaa.A
open Go.RowKit Go.Proofs.YtokkjnfdfbpphaaW.PrintWords Go.Proofs.YtokkjnfdfbpphaaW.PrintLast Go.Proofs.YtokkjnfdfbpphaaW.PrintMore
attribute [local go_sem] max2_int min2_int max_two min_two max_three min_three max_four min_four   -- for this text's walks alone
set_option linter.unusedVariables false
set_option linter.unusedSimpArgs false

/-! ### chartularyref23_count: function 44 -/
def chartularyref23_count.l0 : Nat → Int → ByteArray → Option (ByteArray)
  | 0, _, _ => none
  | k + 1, x0, x3 => (some (([(IntKind.u64.wrap (48 + (Int.tmod x0 10))) % 256] : List Int) : List Int)).bind fun y259 => (if (strOfNums y259).size + x3.size ≤ 9223372036854775807 then (if (IntKind.u64.wrap (Int.tdiv x0 10)) = 0 then (some ((strOfNums y259) ++ x3)) else (chartularyref23_count.l0 k (IntKind.u64.wrap (Int.tdiv x0 10)) ((strOfNums y259) ++ x3))) else (none))
def chartularyref23_count.f (k : Nat) (a0 : Int) : Option (ByteArray) := chartularyref23_count.l0 k a0 (⟨#[]⟩ : ByteArray)
theorem chartularyref23_count.mono_l : ∀ k, (∀ y0 y1, LeO (chartularyref23_count.l0 k y0 y1) (chartularyref23_count.l0 (k + 1) y0 y1))
  | 0 => fun _ _ r h => by simp [chartularyref23_count.l0] at h
  | k + 1 => by
    have ih0 := chartularyref23_count.mono_l k
    · intro y0 y1
      unfold chartularyref23_count.l0
      repeat' first
      | (with_reducible exact ih0 _ _)
      | (with_reducible exact LeO.refl _)
      | (with_reducible exact LeO.none _)
      | (with_reducible refine LeO.ite ?_ ?_)
      | (with_reducible refine LeO.bind ?_ (fun _ => ?_))
      | exact ih0 _ _
      | exact LeO.none _
      | refine LeO.ite ?_ ?_
      | refine LeO.bind ?_ (fun _ => ?_)
theorem chartularyref23_count.mono : ∀ a0 k, LeO (chartularyref23_count.f k a0) (chartularyref23_count.f (k + 1) a0) := by
  intro a0 k
  have ih0 := chartularyref23_count.mono_l k
  unfold chartularyref23_count.f
  repeat' first
      | (with_reducible exact ih0 _ _)
      | (with_reducible exact LeO.refl _)
      | (with_reducible exact LeO.none _)
      | (with_reducible refine LeO.ite ?_ ?_)
      | (with_reducible refine LeO.bind ?_ (fun _ => ?_))
      | exact ih0 _ _
      | exact LeO.none _
      | refine LeO.ite ?_ ?_
      | refine LeO.bind ?_ (fun _ => ?_)
set_option maxHeartbeats 8000000 in
set_option maxRecDepth 100000 in
theorem chartularyref23_count.calls (k : Nat) (a0 : Int) (r : ByteArray) (w : World) (h : chartularyref23_count.f k a0 = some r) :
    Calls Try.prog 44 #[.int .u64 a0] w fun e w' => e = .returned (.string r) ∧ Below w.heap.size w w' := by
  have HB := Aside0.mk (Below.refl w.heap.size w)
  have H : (chartularyref23_count.l0 k a0 (⟨#[]⟩ : ByteArray)) = some r := h
  clear h
  have H' := Aside0.mk H
  clear H
  go_enter Try.func44, Try.ntmps44
  go_wp2
  go_loopg [0, 3] k (fun kq v0 v3 w' => ∃ (x0_1 : Int) (x3_1 : ByteArray), v0 = .int .u64 x0_1 ∧ v3 = .string x3_1 ∧ Aside0 (chartularyref23_count.l0 kq x0_1 x3_1 = some r) ∧ Aside0 (kq ≤ k) ∧ Aside0 (Below w.heap.size w w'))
  case atStart => exact ⟨(a0), ((⟨#[]⟩ : ByteArray)), (by first | rfl | (simp; done) | (simp [*]; done)), (by first | rfl | (simp; done) | (simp [*]; done)), H', ⟨Nat.le_refl _⟩, ⟨by repeat (first | (with_reducible first | exact HB.out | apply below_alloc | apply pw_below_drewN | apply below_drew1) | exact HB.out)⟩⟩
  case round =>
    clear H'
    obtain ⟨x0_1, x3_1, rfl, rfl, HA, HK1, HB⟩ := hrel
    cases gk with
    | zero => exact absurd HA.out (by simp [chartularyref23_count.l0])
    | succ k1 =>
      have H := HA.out
      clear HA
      simp only [chartularyref23_count.l0] at H
      obtain ⟨y259, hy259⟩ : ∃ y_ : List Int, y_ = (([(IntKind.u64.wrap (48 + (Int.tmod x0_1 10))) % 256] : List Int)) := ⟨_, rfl⟩
      replace H : (if (strOfNums y259).size + x3_1.size ≤ 9223372036854775807 then (if (IntKind.u64.wrap (Int.tdiv x0_1 10)) = 0 then (some ((strOfNums y259) ++ x3_1)) else (chartularyref23_count.l0 k1 (IntKind.u64.wrap (Int.tdiv x0_1 10)) ((strOfNums y259) ++ x3_1))) else (none)) = some r := by first | (rw [hy259]; with_reducible exact H) | (have H2_ := (Option.bind_some _ _).symm.trans H; rw [hy259]; with_reducible exact H2_) | (have H2_ := (Option.bind_some _ _).symm.trans H; with_reducible exact H2_) | with_reducible exact H | (rw [hy259]; exact H) | exact H
      have Ny259 := Aside0.mk hy259
      clear hy259
      by_cases c2 : (strOfNums y259).size + x3_1.size ≤ 9223372036854775807
      · rw [if_pos c2] at H
        have c2b0 := eq_true c2
        have c2b1 : decide ((strOfNums y259).size + x3_1.size ≤ 9223372036854775807) = true := decide_eq_true c2
        try have c2b2 : (9223372036854775807 < (strOfNums y259).size + x3_1.size) = False := eq_false (Nat.not_lt.2 c2)
        by_cases c3 : (IntKind.u64.wrap (Int.tdiv x0_1 10)) = 0
        · rw [if_pos c3] at H
          have c3b0 : ((IntKind.u64.wrap (Int.tdiv x0_1 10)) == 0) = true := beq_iff_eq.mpr c3
          have c3b1 : ((IntKind.u64.wrap (Int.tdiv x0_1 10)) != 0) = false := bne_eq_false_iff_eq.mpr c3
          clear c3
          obtain rfl := Option.some.inj H
          go_wp2_with (first | ((with_reducible refine gate_dst (N := 8) rfl ?_); refine Kd.R_lit (Kd.int .u8) _ 5 ?hg (N := 8) ?hd (xs := ([(IntKind.u64.wrap (48 + (Int.tmod x0_1 10))) % 256] : List Int)) (inner := [.int .u8 ((IntKind.u64.wrap (48 + (Int.tmod x0_1 10))) % 256)]) (ok := fun _ => True) (okp := fun _ => True) ?hr ?hp (fun _ hk => hk) trivial (Below.refl _ _) (Nat.le_refl _) (by simp) ?_; (case hd => rfl); (case hg => rfl); (case hr => first | (go_simp; done) | (go_simp; rfl)); (case hp => exact (Reps.one (show Kd.M (Kd.int .u8) _ _ _ ((IntKind.u64.wrap (48 + (Int.tmod x0_1 10))) % 256) [.int .u8 ((IntKind.u64.wrap (48 + (Int.tmod x0_1 10))) % 256)] from rfl) (Reps.none _ _))); intro v260 w4 ho5 hb hg_ hnew_; clear hg_ hnew_; (first | rw [← Ny259.out] at ho5 | (simp only [Int.reduceToNat] at ho5; rw [← Ny259.out] at ho5)); have n0_ := Aside0.mk (Kd.R_lower ho5 (below_size (by repeat (first | (with_reducible first | exact HB.out | apply below_alloc | apply pw_below_drewN | apply below_drew1) | exact HB.out)))); have n1_ := Aside0.mk (below_step (by repeat (first | (with_reducible first | exact HB.out | apply below_alloc | apply pw_below_drewN | apply below_drew1) | exact HB.out)) hb); clear HB; have HO261 := n0_; have HB := n1_; clear n0_ n1_; clear hb ho5; have hcv6 := own_string (P := Try.prog) Try.underlying55 Try.underlying5 Try.underlying9 (Kd.own_of_R HO261.out)))
          go_ret
          exact ⟨by first | rfl | (simp [errW_none, errW_some] <;> rfl) | (simp [*, errW_none, errW_some] <;> rfl), by repeat (first | (with_reducible first | exact HB.out | apply below_alloc | apply pw_below_drewN | apply below_drew1) | exact HB.out)⟩
        · rw [if_neg c3] at H
          have c3b0 : ((IntKind.u64.wrap (Int.tdiv x0_1 10)) == 0) = false := beq_eq_false_iff_ne.mpr c3
          have c3b1 : ((IntKind.u64.wrap (Int.tdiv x0_1 10)) != 0) = true := bne_iff_ne.mpr c3
          have H' := Aside0.mk H
          clear H
          go_wp2_with (first | ((with_reducible refine gate_dst (N := 8) rfl ?_); refine Kd.R_lit (Kd.int .u8) _ 5 ?hg (N := 8) ?hd (xs := ([(IntKind.u64.wrap (48 + (Int.tmod x0_1 10))) % 256] : List Int)) (inner := [.int .u8 ((IntKind.u64.wrap (48 + (Int.tmod x0_1 10))) % 256)]) (ok := fun _ => True) (okp := fun _ => True) ?hr ?hp (fun _ hk => hk) trivial (Below.refl _ _) (Nat.le_refl _) (by simp) ?_; (case hd => rfl); (case hg => rfl); (case hr => first | (go_simp; done) | (go_simp; rfl)); (case hp => exact (Reps.one (show Kd.M (Kd.int .u8) _ _ _ ((IntKind.u64.wrap (48 + (Int.tmod x0_1 10))) % 256) [.int .u8 ((IntKind.u64.wrap (48 + (Int.tmod x0_1 10))) % 256)] from rfl) (Reps.none _ _))); intro v260 w7 ho8 hb hg_ hnew_; clear hg_ hnew_; (first | rw [← Ny259.out] at ho8 | (simp only [Int.reduceToNat] at ho8; rw [← Ny259.out] at ho8)); have n0_ := Aside0.mk (Kd.R_lower ho8 (below_size (by repeat (first | (with_reducible first | exact HB.out | apply below_alloc | apply pw_below_drewN | apply below_drew1) | exact HB.out)))); have n1_ := Aside0.mk (below_step (by repeat (first | (with_reducible first | exact HB.out | apply below_alloc | apply pw_below_drewN | apply below_drew1) | exact HB.out)) hb); clear HB; have HO261 := n0_; have HB := n1_; clear n0_ n1_; clear hb ho8; have hcv9 := own_string (P := Try.prog) Try.underlying55 Try.underlying5 Try.underlying9 (Kd.own_of_R HO261.out)))
          go_roundg k1
          case measure => have := HK1.out; omega
          case rel => exact ⟨(IntKind.u64.wrap (Int.tdiv x0_1 10)), ((strOfNums y259) ++ x3_1), (by first | rfl | (simp; done) | (simp [*]; done)), (by first | rfl | (simp; done) | (simp [*]; done)), H', ⟨by have := HK1.out; omega⟩, ⟨by repeat (first | (with_reducible first | exact HB.out | apply below_alloc | apply pw_below_drewN | apply below_drew1) | exact HB.out)⟩⟩
      · rw [if_neg c2] at H
        exact absurd H (by simp)

end Go.Proofs.Ytokkjnfdfbpphaa.A
namespace Go.Proofs.Ytokkjnfdfbpphaa.A
open Go.RowKit Go.Proofs.YtokkjnfdfbpphaaW.PrintWords Go.Proofs.YtokkjnfdfbpphaaW.PrintLast Go.Proofs.YtokkjnfdfbpphaaW.PrintMore
attribute [local go_sem] max2_int min2_int max_two min_two max_three min_three max_four min_four   -- for this text's walks alone
set_option linter.unusedVariables false
set_option linter.unusedSimpArgs false

/-! ### chartularyref23_Whole: function 32 -/
def chartularyref23_Whole.f (k : Nat) (a0 : Int) : Option (ByteArray) := if a0 ≥ 0 then ((chartularyref23_count.f k (IntKind.u64.wrap (a0))).bind fun t262 => (some t262)) else ((chartularyref23_count.f k (IntKind.u64.wrap ((IntKind.u64.wrap (wrap64 (-(wrap64 (a0 + 1))))) + 1))).bind fun t263 => (if 1 + t263.size ≤ 9223372036854775807 then (some ((⟨#[45]⟩ : ByteArray) ++ t263)) else (none)))
theorem chartularyref23_Whole.mono : ∀ a0 k, LeO (chartularyref23_Whole.f k a0) (chartularyref23_Whole.f (k + 1) a0) := by
  intro a0 k
  unfold chartularyref23_Whole.f
  repeat' first
      | (with_reducible exact chartularyref23_count.mono _ _)
      | (with_reducible exact LeO.refl _)
      | (with_reducible exact LeO.none _)
      | (with_reducible refine LeO.ite ?_ ?_)
      | (with_reducible refine LeO.bind ?_ (fun _ => ?_))
      | exact chartularyref23_count.mono _ _
      | exact LeO.none _
      | refine LeO.ite ?_ ?_
      | refine LeO.bind ?_ (fun _ => ?_)
set_option maxHeartbeats 8000000 in
set_option maxRecDepth 100000 in
theorem chartularyref23_Whole.calls (k : Nat) (a0 : Int) (r : ByteArray) (w : World) (h : chartularyref23_Whole.f k a0 = some r) :
    Calls Try.prog 32 #[.int .i64 a0] w fun e w' => e = .returned (.string r) ∧ Below w.heap.size w w' := by
  have HB := Aside0.mk (Below.refl w.heap.size w)
  have H : (if a0 ≥ 0 then ((chartularyref23_count.f k (IntKind.u64.wrap (a0))).bind fun t262 => (some t262)) else ((chartularyref23_count.f k (IntKind.u64.wrap ((IntKind.u64.wrap (wrap64 (-(wrap64 (a0 + 1))))) + 1))).bind fun t263 => (if 1 + t263.size ≤ 9223372036854775807 then (some ((⟨#[45]⟩ : ByteArray) ++ t263)) else (none)))) = some r := h
  clear h
  by_cases c2 : a0 ≥ 0
  · rw [if_pos c2] at H
    have c2b0 : decide (0 ≤ a0) = true := decide_eq_true c2
    clear c2
    replace H := Option.bind_eq_some_iff.mp H
    obtain ⟨t262, A30, H⟩ := H
    replace H : (some t262) = some r := H
    have A3 := Aside0.mk A30
    clear A30
    obtain rfl := Option.some.inj H
    go_enter Try.func32, Try.ntmps32
    go_wp2_with (first | ((with_reducible refine gate_callee (f := 44) rfl ?_); refine goesL_ (some 7) rfl rfl Try.func44 (by kernel_rfl) rfl #[.int .u64 (IntKind.u64.wrap (a0))] rfl (by (try simp only [List.map_toArray, List.map_cons, List.map_nil]); first | done | rfl | (simp only [List.length_drop, List.length_take]; rfl)) ?_; (with_reducible refine (chartularyref23_count.calls k (IntKind.u64.wrap (a0)) t262 _ A3.out).mono ?_); rintro e w4 ⟨rfl, hb⟩; refine ⟨_, rfl, ?_⟩; have n0_ := Aside0.mk (below_step (by repeat (first | (with_reducible first | exact HB.out | apply below_alloc | apply pw_below_drewN | apply below_drew1) | exact HB.out)) hb); clear HB; have HB := n0_; clear n0_; (try clear hb); (try clear hb2); (try clear hk); (try clear hi)))
    go_ret
    exact ⟨by first | rfl | (simp [errW_none, errW_some] <;> rfl) | (simp [*, errW_none, errW_some] <;> rfl), by repeat (first | (with_reducible first | exact HB.out | apply below_alloc | apply pw_below_drewN | apply below_drew1) | exact HB.out)⟩
  · rw [if_neg c2] at H
    have c2b0 : decide (0 ≤ a0) = false := decide_eq_false c2
    clear c2
    replace H := Option.bind_eq_some_iff.mp H
    obtain ⟨t263, A50, H⟩ := H
    replace H : (if 1 + t263.size ≤ 9223372036854775807 then (some ((⟨#[45]⟩ : ByteArray) ++ t263)) else (none)) = some r := H
    have A5 := Aside0.mk A50
    clear A50
    by_cases c6 : 1 + t263.size ≤ 9223372036854775807
    · rw [if_pos c6] at H
      have c6b0 := eq_true c6
      have c6b1 : decide (1 + t263.size ≤ 9223372036854775807) = true := decide_eq_true c6
      try have c6b2 : (9223372036854775807 < 1 + t263.size) = False := eq_false (Nat.not_lt.2 c6)
      obtain rfl := Option.some.inj H
      go_enter Try.func32, Try.ntmps32
      go_wp2_with (first | ((with_reducible refine gate_callee (f := 44) rfl ?_); refine goesL_ (some 13) rfl rfl Try.func44 (by kernel_rfl) rfl #[.int .u64 (IntKind.u64.wrap ((IntKind.u64.wrap (wrap64 (-(wrap64 (a0 + 1))))) + 1))] rfl (by (try simp only [List.map_toArray, List.map_cons, List.map_nil]); first | done | rfl | (simp only [List.length_drop, List.length_take]; rfl)) ?_; (with_reducible refine (chartularyref23_count.calls k (IntKind.u64.wrap ((IntKind.u64.wrap (wrap64 (-(wrap64 (a0 + 1))))) + 1)) t263 _ A5.out).mono ?_); rintro e w7 ⟨rfl, hb⟩; refine ⟨_, rfl, ?_⟩; have n0_ := Aside0.mk (below_step (by repeat (first | (with_reducible first | exact HB.out | apply below_alloc | apply pw_below_drewN | apply below_drew1) | exact HB.out)) hb); clear HB; have HB := n0_; clear n0_; (try clear hb); (try clear hb2); (try clear hk); (try clear hi)))
      go_ret
      exact ⟨by first | rfl | (simp [errW_none, errW_some] <;> rfl) | (simp [*, errW_none, errW_some] <;> rfl), by repeat (first | (with_reducible first | exact HB.out | apply below_alloc | apply pw_below_drewN | apply below_drew1) | exact HB.out)⟩
    · rw [if_neg c6] at H
      exact absurd H (by simp)

end Go.Proofs.Ytokkjnfdfbpphaa.A
namespace Go.Proofs.Ytokkjnfdfbpphaa.A
open Go.RowKit Go.Proofs.YtokkjnfdfbpphaaW.PrintWords Go.Proofs.YtokkjnfdfbpphaaW.PrintLast Go.Proofs.YtokkjnfdfbpphaaW.PrintMore
attribute [local go_sem] max2_int min2_int max_two min_two max_three min_three max_four min_four   -- for this text's walks alone
set_option linter.unusedVariables false
set_option linter.unusedSimpArgs false

/-! numbers as digits -/
def digC (n : Nat) : UInt8 := UInt8.ofNat (48 + n)
def dec (n : Nat) : List UInt8 := if n < 10 then [digC n] else dec (n / 10) ++ [digC (n % 10)]
termination_by n
decreasing_by omega
theorem dec_small (n : Nat) (h : n < 10) : dec n = [digC n] := by rw [dec, if_pos h]
theorem dec_big (n : Nat) (h : ¬ n < 10) : dec n = dec (n / 10) ++ [digC (n % 10)] := by rw [dec, if_neg h]
theorem digC_facts (n : Nat) (h : n < 10) : isDigit (digC n) = true ∧ digVal (digC n) = n ∧ (digC n).toNat = 48 + n ∧ (digC n = 48 → n = 0) := by
  have key : ∀ m : Fin 10, isDigit (digC m.1) = true ∧ digVal (digC m.1) = m.1 ∧ (digC m.1).toNat = 48 + m.1 ∧ (digC m.1 = 48 → m.1 = 0) := by decide
  exact key ⟨n, h⟩
theorem dec_ind {P : Nat → Prop} (h0 : ∀ n, n < 10 → P n) (h1 : ∀ n, ¬ n < 10 → P (n / 10) → P n) : ∀ n, P n := by
  intro n
  induction n using Nat.strongRecOn with
  | ind n ih =>
    by_cases h : n < 10
    · exact h0 n h
    · exact h1 n h (ih (n / 10) (by omega))
theorem dec_digits : ∀ n, ∀ c ∈ dec n, isDigit c = true := by
  refine dec_ind (fun n h => ?_) (fun n h ih => ?_)
  · intro c hc; rw [dec_small n h] at hc; rw [List.mem_singleton.1 hc]; exact (digC_facts n h).1
  · intro c hc; rw [dec_big n h] at hc
    rcases List.mem_append.1 hc with hc | hc
    · exact ih c hc
    · rw [List.mem_singleton.1 hc]; exact (digC_facts _ (Nat.mod_lt _ (by decide))).1
theorem dec_ne (n : Nat) : dec n ≠ [] := by
  by_cases h : n < 10
  · rw [dec_small n h]; simp
  · rw [dec_big n h]; simp
theorem dec_length : ∀ (k n : Nat), 0 < k → n < 10 ^ k → (dec n).length ≤ k
  | 0, _, h, _ => absurd h (Nat.lt_irrefl 0)
  | k + 1, n, _, h => by
    by_cases h9 : n < 10
    · rw [dec_small n h9]; simp
    · rw [dec_big n h9, List.length_append]
      have hk : 0 < k := by
        rcases Nat.eq_zero_or_pos k with rfl | h2
        · simp at h; omega
        · exact h2
      have := dec_length k (n / 10) hk (by rw [Nat.pow_succ] at h; omega)
      simp; omega
theorem dec_64 (n : Nat) (h : n < 18446744073709551616) : (dec n).length ≤ 20 := by
  have e : (10 : Nat) ^ 20 = 100000000000000000000 := by decide
  exact dec_length 20 n (by decide) (by omega)
/-- No 0 is ahead, but in 0 itself. -/
theorem dec_head : ∀ n, 0 < n → (dec n).head? ≠ some 48 := by
  refine dec_ind (fun n h => ?_) (fun n h ih => ?_)
  · intro h0 e; rw [dec_small n h] at e
    have := (digC_facts n h).2.2.2 (by simpa using e)
    omega
  · intro h0 e; rw [dec_big n h] at e
    refine ih (by omega) ?_
    cases hd : dec (n / 10) with
    | nil => exact absurd hd (dec_ne _)
    | cons c t => rw [hd] at e; simpa using e
theorem digFold_append : ∀ (a b : List UInt8) (m : Nat), digFold m (a ++ b) = (digFold m a).bind fun n => digFold n b
  | [], b, m => rfl
  | c :: a, b, m => by
    rw [List.cons_append, digFold, digFold]
    split
    · rfl
    · exact digFold_append a b _
theorem digFold_dec : ∀ n, n < 18446744073709551616 → digFold 0 (dec n) = some n := by
  refine dec_ind (fun n h => ?_) (fun n h ih => ?_)
  · intro _; rw [dec_small n h, digFold, (digC_facts n h).2.1, if_neg (by omega)]; simp [digFold]
  · intro hn
    have hm : n % 10 < 10 := Nat.mod_lt _ (by decide)
    rw [dec_big n h, digFold_append, ih (by omega)]
    show digFold (n / 10) [digC (n % 10)] = some n
    rw [digFold, (digC_facts _ hm).2.1, if_neg (by omega), digFold]
    congr 1; omega
theorem digitsOf_dec (n : Nat) (h : n < 18446744073709551616) : digitsOf (dec n) = some n := by
  have hl := dec_64 n h
  have hf := digFold_dec n h
  cases hd : dec n with
  | nil => exact absurd hd (dec_ne n)
  | cons c t =>
    rw [hd] at hl hf
    rw [digitsOf, if_neg ?_, hf]
    rintro (⟨h1, h2⟩ | h2)
    · by_cases h0 : n = 0
      · subst h0
        rw [dec_small 0 (by decide)] at hd
        simp at hd
        rw [hd.2] at h1; simp at h1
      · exact dec_head n (by omega) (by rw [hd, h2]; rfl)
    · simp at hl; omega
/-- A whole number as a script says it. -/
def intText (n : Int) : List UInt8 := if n < 0 then 45 :: dec (-n).toNat else dec n.toNat
theorem numVal_int (n : Int) (h1 : -9223372036854775808 ≤ n) (h2 : n < 9223372036854775808) : numVal (intText n) = some n := by
  unfold numVal intText
  by_cases h : n < 0
  · simp only [if_pos h]
    rw [if_pos (by rfl), List.tail_cons, digitsOf_dec _ (by omega)]
    show numNeg _ = _
    unfold numNeg
    rw [if_neg (by omega)]
    congr 1; omega
  · rw [if_neg h, if_neg, digitsOf_dec _ (by omega)]
    · show numPos _ = _
      unfold numPos
      rw [if_neg (by omega)]
      congr 1; omega
    · intro e
      have := dec_digits n.toNat 45 (List.mem_of_mem_head? e)
      simp [isDigit] at this
theorem intText_length (n : Int) (h1 : -9223372036854775808 ≤ n) (h2 : n < 9223372036854775808) : (intText n).length ≤ 21 := by
  unfold intText
  split
  · have := dec_64 (-n).toNat (by omega); simp; omega
  · have := dec_64 n.toNat (by omega); omega
theorem intText_ne (n : Int) : intText n ≠ [] := by
  unfold intText; split
  · simp
  · exact dec_ne _
theorem Lexes.dec (n : Nat) : Lexes false (Go.Proofs.Ytokkjnfdfbpphaa.A.dec n) [(1, Go.Proofs.Ytokkjnfdfbpphaa.A.dec n)] := by
  have h := dec_digits n
  cases hd : Go.Proofs.Ytokkjnfdfbpphaa.A.dec n with
  | nil => exact absurd hd (dec_ne n)
  | cons c t =>
    rw [hd] at h
    have hc := h c (by simp)
    exact Lexes.number c t (by simp [hc]) (fun d hdt => h d (by simp [hdt])) (fun e => by rw [e] at hc; exact absurd hc (by decide))
theorem Lexes.int (n : Int) : Lexes false (intText n) [(1, intText n)] := by
  unfold intText
  by_cases h : n < 0
  · rw [if_pos h]
    exact Lexes.number 45 _ (by decide) (dec_digits _) (fun _ => dec_ne _)
  · rw [if_neg h]; exact Lexes.dec _
/-! the two ways in which digits are made -/
theorem digC_num (n : Nat) (h : n < 10) : (IntKind.u64.wrap (48 + (n : Int))) % 256 = ((digC n).toNat : Int) := by
  rw [(digC_facts n h).2.2.1, wraps_u64 _ (by omega) (by omega)]; omega
theorem set_mid {α : Type} (A : List α) (x y : α) (B : List α) : (A ++ x :: B).set A.length y = A ++ y :: B := by
  rw [List.set_append]; simp
theorem rd_mid (A : List Int) (x : Int) (B : List Int) (i : Int) (h : i = (A.length : Int)) : rd (A ++ x :: B) i = x := by
  subst h; simp [rd]
theorem list_ends {α : Type} (l : List α) : l = [] ∨ (∃ x, l = [x]) ∨ ∃ x m y, l = x :: (m ++ [y]) := by
  cases l with
  | nil => exact .inl rfl
  | cons x t =>
    right
    rcases List.eq_nil_or_concat t with h | ⟨m, y, h⟩
    · exact .inl ⟨x, by rw [h]⟩
    · exact .inr ⟨x, m, y, by rw [h]; simp⟩
theorem count_swap : ∀ (j k : Nat) (A M B : List Int), M.length ≤ j → j < k → A.length + M.length + B.length < 1000 →
    say_count.l1 k (A ++ M ++ B) (A.length : Int) ((A.length : Int) + (M.length : Int) - 1) = some (strOfNums (A ++ M.reverse ++ B)) := by
  intro j
  induction j using Nat.strongRecOn with
  | ind j ih =>
    intro k A M B hM hk hL
    obtain ⟨k, rfl⟩ : ∃ m, k = m + 1 := ⟨k - 1, by omega⟩
    rcases list_ends M with rfl | ⟨x, rfl⟩ | ⟨x, N, y, rfl⟩
    · rw [say_count.l1, if_neg (by simp; omega)]; simp
    · rw [say_count.l1, if_neg (by simp)]; simp
    · simp only [List.length_cons, List.length_append, List.length_nil] at hM hL
      rw [say_count.l1, if_pos (by simp; omega), if_pos (by simp; omega), if_pos (by simp; omega), if_pos (by omega), if_pos (by simp; omega)]
      have e1 : A ++ x :: (N ++ [y]) ++ B = (A ++ x :: N) ++ y :: B := by simp
      have e2 : (A.length : Int) + ((x :: (N ++ [y])).length : Int) - 1 = ((A ++ x :: N).length : Int) := by simp; omega
      rw [e2, e1]
      rw [rd_mid (A ++ x :: N) y B _ rfl, show rd ((A ++ x :: N) ++ y :: B) (A.length : Int) = x from by rw [List.append_assoc, List.cons_append]; exact rd_mid A x _ _ rfl]
      rw [Int.toNat_natCast, Int.toNat_natCast]
      rw [show ((A ++ x :: N) ++ y :: B).set A.length y = (A ++ y :: N) ++ y :: B from by rw [List.append_assoc, List.cons_append, set_mid]; simp]
      rw [show (A ++ x :: N).length = (A ++ y :: N).length by simp, set_mid]
      have w1 : wrap64 ((A.length : Int) + 1) = ((A ++ [y]).length : Int) := by unfold wrap64; simp; omega
      have w2 : wrap64 (((A ++ y :: N).length : Int) - 1) = ((A ++ [y]).length : Int) + (N.length : Int) - 1 := by unfold wrap64; simp; omega
      rw [w1, w2, show (A ++ y :: N) ++ x :: B = (A ++ [y]) ++ N ++ (x :: B) by simp]
      rw [ih N.length (by omega) k (A ++ [y]) N (x :: B) (Nat.le_refl _) (by omega) (by simp; omega)]
      simp
theorem count_l0 : ∀ (j x : Nat) (acc : List Int) (k : Nat), (dec x).length = j + 1 → acc.length + j < 900 → x < 18446744073709551616 →
    say_count.l0 (k + j + 1) (x : Int) acc = say_count.l1 k (acc ++ nums (dec x).reverse) 0 ((acc.length : Int) + (j : Int)) := by
  intro j
  induction j with
  | zero =>
    intro x acc k hd ha hx
    have h9 : x < 10 := by
      by_cases h : x < 10
      · exact h
      · rw [dec_big x h] at hd; simp at hd; exact absurd hd (dec_ne _)
    rw [say_count.l0, if_neg (by omega), if_pos (by omega)]
    show say_count.l1 k _ 0 _ = _
    rw [digC_num x h9, dec_small x h9]
    simp only [nums, List.reverse_singleton, List.map_cons, List.map_nil, List.length_append, List.length_cons, List.length_nil]
    congr 1
    unfold wrap64; omega
  | succ j ih =>
    intro x acc k hd ha hx
    have h9 : ¬ x < 10 := by intro h; rw [dec_small x h] at hd; simp at hd
    have hm : x % 10 < 10 := Nat.mod_lt _ (by decide)
    rw [dec_big x h9] at hd ⊢
    rw [List.length_append] at hd
    rw [show k + (j + 1) + 1 = (k + j + 1) + 1 by omega, say_count.l0, if_pos (by omega), if_pos (by omega)]
    have e1 : Int.tdiv (x : Int) 10 = ((x / 10 : Nat) : Int) := by rw [Int.tdiv_eq_ediv_of_nonneg (by omega)]; omega
    have e2 : Int.tmod (x : Int) 10 = ((x % 10 : Nat) : Int) := by rw [Int.tmod_eq_emod_of_nonneg (by omega)]; omega
    rw [e1, e2, digC_num _ hm, wraps_u64 _ (by omega) (by omega), ih (x / 10) _ k (by simpa using hd) (by simp; omega) (by omega)]
    simp only [nums, List.reverse_append, List.map_append, List.length_append, List.reverse_singleton, List.map_cons, List.map_nil, List.length_cons, List.length_nil, List.append_assoc]
    congr 1
    omega
theorem say_count_dec (n k : Nat) (h : n < 18446744073709551616) (hk : 50 ≤ k) : say_count.f k (n : Int) = some ⟨(dec n).toArray⟩ := by
  have hl := dec_64 n h
  have hp : 0 < (dec n).length := by have := dec_ne n; exact List.length_pos_iff.2 this
  unfold say_count.f
  obtain ⟨j, hj⟩ : ∃ j, (dec n).length = j + 1 := ⟨(dec n).length - 1, by omega⟩
  obtain ⟨m, rfl⟩ : ∃ m, k = m + j + 1 := ⟨k - j - 1, by omega⟩
  rw [count_l0 j n [] m hj (by simp; omega) h]
  have := count_swap (j + 1) m [] (nums (dec n).reverse) [] (by simp [nums, hj]) (by omega) (by simp [nums, hj]; omega)
  simp only [List.nil_append, List.append_nil, List.length_nil] at this ⊢
  rw [show ((0 : Nat) : Int) + (j : Int) = ((0 : Nat) : Int) + ((nums (dec n).reverse).length : Int) - 1 by simp [nums, hj]]
  rw [show (0 : Int) = ((0 : Nat) : Int) from rfl, this]
  congr 1
  rw [show (nums (dec n).reverse).reverse = nums (dec n) by simp [nums], strOfNums_nums]
theorem ref_count_dec : ∀ (j n : Nat) (acc : List UInt8) (k : Nat), (dec n).length = j + 1 → j < k → acc.length + j < 900 → n < 18446744073709551616 →
    chartularyref23_count.l0 k (n : Int) ⟨acc.toArray⟩ = some ⟨(dec n ++ acc).toArray⟩ := by
  intro j
  induction j with
  | zero =>
    intro n acc k hd hk ha hn
    obtain ⟨k, rfl⟩ : ∃ m, k = m + 1 := ⟨k - 1, by omega⟩
    have h9 : n < 10 := by
      by_cases h : n < 10
      · exact h
      · rw [dec_big n h] at hd; simp at hd; exact absurd hd (dec_ne _)
    rw [chartularyref23_count.l0]
    have e1 : Int.tdiv (n : Int) 10 = ((n / 10 : Nat) : Int) := by rw [Int.tdiv_eq_ediv_of_nonneg (by omega)]; omega
    have e2 : Int.tmod (n : Int) 10 = (n : Int) := by rw [Int.tmod_eq_emod_of_nonneg (by omega)]; omega
    rw [e1, e2, digC_num n h9, wraps_u64 _ (by omega) (by omega), dec_small n h9]
    have e3 : strOfNums [((digC n).toNat : Int)] = ⟨[digC n].toArray⟩ := strOfNums_nums [digC n]
    show (if _ then _ else _) = _
    rw [e3, if_pos (by show 1 + acc.toArray.size ≤ _; simp; omega), if_pos (by omega)]
    congr 1
  | succ j ih =>
    intro n acc k hd hk ha hn
    obtain ⟨k, rfl⟩ : ∃ m, k = m + 1 := ⟨k - 1, by omega⟩
    have h9 : ¬ n < 10 := by intro h; rw [dec_small n h] at hd; simp at hd
    have hm : n % 10 < 10 := Nat.mod_lt _ (by decide)
    rw [dec_big n h9, List.length_append] at hd
    rw [chartularyref23_count.l0]
    have e1 : Int.tdiv (n : Int) 10 = ((n / 10 : Nat) : Int) := by rw [Int.tdiv_eq_ediv_of_nonneg (by omega)]; omega
    have e2 : Int.tmod (n : Int) 10 = ((n % 10 : Nat) : Int) := by rw [Int.tmod_eq_emod_of_nonneg (by omega)]; omega
    rw [e1, e2, digC_num _ hm, wraps_u64 _ (by omega) (by omega)]
    have e3 : strOfNums [((digC (n % 10)).toNat : Int)] = ⟨[digC (n % 10)].toArray⟩ := strOfNums_nums [digC (n % 10)]
    show (if _ then _ else _) = _
    rw [e3, if_pos (by show 1 + acc.toArray.size ≤ _; simp; omega), if_neg (by omega)]
    have e4 : (⟨[digC (n % 10)].toArray⟩ : ByteArray) ++ (⟨acc.toArray⟩ : ByteArray) = ⟨(digC (n % 10) :: acc).toArray⟩ := by apply ba_ext; simp
    rw [e4, ih (n / 10) _ k (by simpa using hd) (by omega) (by simp; omega) (by omega), dec_big n h9]
    simp
theorem ref_count (n k : Nat) (h : n < 18446744073709551616) (hk : 50 ≤ k) : chartularyref23_count.f k (n : Int) = some ⟨(dec n).toArray⟩ := by
  have hl := dec_64 n h
  have hp : 0 < (dec n).length := List.length_pos_iff.2 (dec_ne n)
  have := ref_count_dec ((dec n).length - 1) n [] k (by omega) (by omega) (by simp; omega) h
  rw [List.append_nil] at this
  exact this
theorem say_whole_int (n : Int) (k : Nat) (h1 : -9223372036854775808 ≤ n) (h2 : n < 9223372036854775808) (hk : 50 ≤ k) : say_whole.f k n = some ⟨(intText n).toArray⟩ := by
  unfold say_whole.f intText
  by_cases h : n < 0
  · rw [if_pos h, if_pos h]
    have e : IntKind.u64.wrap (-(IntKind.u64.wrap n)) = (((-n).toNat : Nat) : Int) := by
      simp only [IntKind.wrap, IntKind.bits, IntKind.signed]; simp; omega
    have hl := dec_64 (-n).toNat (by omega)
    rw [e, say_count_dec _ _ (by omega) hk]
    show (if _ then _ else _) = _
    rw [if_pos (by show 1 + (dec (-n).toNat).toArray.size ≤ _; simp; omega)]
    congr 1
  · rw [if_neg h, if_neg h]
    have e : IntKind.u64.wrap n = ((n.toNat : Nat) : Int) := by
      simp only [IntKind.wrap, IntKind.bits, IntKind.signed]; simp; omega
    rw [e, say_count_dec _ _ (by omega) hk]; rfl
theorem ref_whole_int (n : Int) (k : Nat) (h1 : -9223372036854775808 ≤ n) (h2 : n < 9223372036854775808) (hk : 50 ≤ k) : chartularyref23_Whole.f k n = some ⟨(intText n).toArray⟩ := by
  unfold chartularyref23_Whole.f intText
  by_cases h : n < 0
  · rw [if_neg (by omega), if_pos h]
    have e : IntKind.u64.wrap ((IntKind.u64.wrap (wrap64 (-(wrap64 (n + 1))))) + 1) = (((-n).toNat : Nat) : Int) := by
      simp only [IntKind.wrap, IntKind.bits, IntKind.signed, wrap64]; simp; omega
    have hl := dec_64 (-n).toNat (by omega)
    rw [e, ref_count _ _ (by omega) hk]
    show (if _ then _ else _) = _
    rw [if_pos (by show 1 + (dec (-n).toNat).toArray.size ≤ _; simp; omega)]
    congr 1
  · rw [if_pos (by omega), if_neg h]
    have e : IntKind.u64.wrap n = ((n.toNat : Nat) : Int) := by
      simp only [IntKind.wrap, IntKind.bits, IntKind.signed]; simp; omega
    rw [e, ref_count _ _ (by omega) hk]; rfl

end Go.Proofs.Ytokkjnfdfbpphaa.A
namespace Go.Proofs.Ytokkjnfdfbpphaa.A
open Go.RowKit Go.Proofs.YtokkjnfdfbpphaaW.PrintWords Go.Proofs.YtokkjnfdfbpphaaW.PrintLast Go.Proofs.YtokkjnfdfbpphaaW.PrintMore
attribute [local go_sem] max2_int min2_int max_two min_two max_three min_three max_four min_four   -- for this text's walks alone
set_option linter.unusedVariables false
set_option linter.unusedSimpArgs false

/-- A block of the call's own, and nothing older has turned. -/
structure Bx (w wc : World) (g : Nat) (cs : Array Value) (T : TypeId) : Prop where
  b : Below w.heap.size w wc
  box : wc.heap[g]? = some (.cells cs T (0, 0))
  ge : w.heap.size ≤ g
theorem Bx.below {w wc w2 : World} {g : Nat} {cs : Array Value} {T : TypeId} (h : Bx w wc g cs T) (hb : Below wc.heap.size wc w2) : Bx w w2 g cs T :=
  ⟨below_step h.b hb, blk_below h.box hb, h.ge⟩
theorem Bx.drewN {w wc : World} {g : Nat} {cs : Array Value} {T : TypeId} (h : Bx w wc g cs T) (n : Nat) : Bx w (wc.drewN n) g cs T := ⟨pw_below_drewN h.b n, blk_drewN h.box n, h.ge⟩
theorem Bx.drew {w wc : World} {g : Nat} {cs : Array Value} {T : TypeId} (h : Bx w wc g cs T) : Bx w wc.drew g cs T := ⟨below_drew1 h.b, blk_drew h.box, h.ge⟩
theorem Bx.alloc {w wc : World} {g : Nat} {cs : Array Value} {T : TypeId} (h : Bx w wc g cs T) (o : Obj) : Bx w (wc.alloc o) g cs T := ⟨below_alloc h.b o, blk_alloc h.box o, h.ge⟩
theorem Bx.put {w wc : World} {g : Nat} {cs : Array Value} {T : TypeId} (h : Bx w wc g cs T) (j : Nat) (u : Value) {cs2 : Array Value} (hj : cs.setIfInBounds j u = cs2) : Bx w (wc.setCell ⟨g, j, none⟩ u) g cs2 T :=
  ⟨below_set h.b h.ge, blk_put h.box j u hj, h.ge⟩
theorem Bx.far {w wc : World} {g : Nat} {cs : Array Value} {T : TypeId} (h : Bx w wc g cs T) {g2 : Nat} (hg : w.heap.size ≤ g2) (hne : g ≠ g2) (j : Nat) (u : Value) : Bx w (wc.setCell ⟨g2, j, none⟩ u) g cs T :=
  ⟨below_set h.b hg, blk_far h.box hne u, h.ge⟩
theorem Bx.start (w : World) (cs : Array Value) (T : TypeId) : Bx w (w.alloc (.cells cs T)) w.heap.size cs T := ⟨below_alloc (Below.refl _ _) _, blk_new w _, Nat.le_refl _⟩
theorem Bx.next {w wc : World} (hb : Below w.heap.size w wc) (cs : Array Value) (T : TypeId) : Bx w (wc.alloc (.cells cs T)) wc.heap.size cs T := ⟨below_alloc hb _, blk_new wc _, hb.size⟩
theorem Bx.five {w wc : World} {g : Nat} {a0 a1 a2 a3 a4 : Value} {T : TypeId} (h : Bx w wc g #[a0, a1, a2, a3, a4] T) (b0 b1 b2 b3 b4 : Value) :
    Bx w (((((wc.setCell ⟨g, 0, none⟩ b0).setCell ⟨g, 1, none⟩ b1).setCell ⟨g, 2, none⟩ b2).setCell ⟨g, 3, none⟩ b3).setCell ⟨g, 4, none⟩ b4) g #[b0, b1, b2, b3, b4] T :=
  ((((h.put 0 b0 rfl).put 1 b1 rfl).put 2 b2 rfl).put 3 b3 rfl).put 4 b4 rfl
theorem Bx.far5 {w wc : World} {g : Nat} {cs : Array Value} {T : TypeId} (h : Bx w wc g cs T) {g2 : Nat} (hg : w.heap.size ≤ g2) (hne : g ≠ g2) (b0 b1 b2 b3 b4 : Value) :
    Bx w (((((wc.setCell ⟨g2, 0, none⟩ b0).setCell ⟨g2, 1, none⟩ b1).setCell ⟨g2, 2, none⟩ b2).setCell ⟨g2, 3, none⟩ b3).setCell ⟨g2, 4, none⟩ b4) g cs T :=
  ((((h.far hg hne 0 b0).far hg hne 1 b1).far hg hne 2 b2).far hg hne 3 b3).far hg hne 4 b4

end Go.Proofs.Ytokkjnfdfbpphaa.A
namespace Go.Proofs.Ytokkjnfdfbpphaa.A
open Go.RowKit Go.Proofs.YtokkjnfdfbpphaaW.PrintWords Go.Proofs.YtokkjnfdfbpphaaW.PrintLast Go.Proofs.YtokkjnfdfbpphaaW.PrintMore
attribute [local go_sem] max2_int min2_int max_two min_two max_three min_three max_four min_four   -- for this text's walks alone
set_option linter.unusedVariables false
set_option linter.unusedSimpArgs false

/-! ### say_Value: function 13 -/
def say_Value.f (k : Nat) (a0_0 : Int) (a0_1 : Bool) (a0_2 : Int) (a0_3 : Int) (a0_4 : ByteArray) : Option (ByteArray) := if a0_0 = 0 then some ⟨#[110, 117, 108, 108]⟩ else if a0_0 = 1 then some (if a0_1 = true then ⟨#[116, 114, 117, 101]⟩ else ⟨#[102, 97, 108, 115, 101]⟩) else if a0_0 = 2 then say_whole.f k a0_2
  else if a0_0 = 3 then (if 0 ≤ a0_3 ∧ a0_3 < 18446744073709551616 then some ⟨(floatText a0_3.toNat).toArray⟩ else none) else if a0_0 = 4 then say_Quoted.f a0_4 else some ⟨#[110, 111, 110, 101]⟩
theorem say_Value.mono : ∀ a0 a1 a2 a3 a4 k, LeO (say_Value.f k a0 a1 a2 a3 a4) (say_Value.f (k + 1) a0 a1 a2 a3 a4) := by
  intro a0 a1 a2 a3 a4 k
  unfold say_Value.f
  repeat' first
    | (with_reducible exact LeO.refl _)
    | (with_reducible exact LeO.none _)
    | (with_reducible exact say_whole.mono _ _)
    | (with_reducible refine LeO.ite ?_ ?_)
set_option maxRecDepth 100000 in
set_option maxHeartbeats 4000000 in
theorem say_Value.calls (k : Nat) (a0_0 : Int) (a0_1 : Bool) (a0_2 : Int) (a0_3 : Int) (a0_4 : ByteArray) (r : ByteArray) (w : World) (h : say_Value.f k a0_0 a0_1 a0_2 a0_3 a0_4 = some r) :
    Calls Try.prog 13 #[.agg #[.int .i64 a0_0, .bool a0_1, .int .i64 a0_2, .int .u64 a0_3, .string a0_4]] w fun e w' => e = .returned (.string r) ∧ Below w.heap.size w w' := by
  unfold say_Value.f at h
  have HX := Aside0.mk (Bx.start w #[.int .i64 a0_0, .bool a0_1, .int .i64 a0_2, .int .u64 a0_3, .string a0_4] 33)
  obtain ⟨z0, z1, z2, z3, z4, y0, y1, y2, y3, y4⟩ := val5 HX.out.box
  by_cases h0 : a0_0 = 0
  · rw [if_pos h0] at h
    subst h0
    obtain rfl := Option.some.inj h
    go_enter Try.func13, Try.ntmps13
    go_wp2_with fail
    go_ret
    exact ⟨rfl, HX.out.b⟩
  rw [if_neg h0] at h
  have e0 : (a0_0 == 0) = false := by simpa using h0
  clear h0
  by_cases h1 : a0_0 = 1
  · rw [if_pos h1] at h
    subst h1
    obtain rfl := Option.some.inj h
    cases a0_1 with
    | true =>
      go_enter Try.func13, Try.ntmps13
      go_wp2_with fail
      go_ret
      exact ⟨rfl, HX.out.b⟩
    | false =>
      go_enter Try.func13, Try.ntmps13
      go_wp2_with fail
      go_ret
      exact ⟨rfl, HX.out.b⟩
  rw [if_neg h1] at h
  have e1 : (a0_0 == 1) = false := by simpa using h1
  clear h1
  by_cases h2 : a0_0 = 2
  · rw [if_pos h2] at h
    subst h2
    have HR := Aside0.mk h
    clear h
    go_enter Try.func13, Try.ntmps13
    go_wp2_with fail
    refine (say_whole.calls k _ _ _ HR.out).mono ?_
    rintro e w2 ⟨rfl, hb⟩
    replace HX := Aside0.mk (HX.out.below hb)
    clear hb
    go_wp2_with fail
    go_ret
    exact ⟨rfl, HX.out.b⟩
  rw [if_neg h2] at h
  have e2 : (a0_0 == 2) = false := by simpa using h2
  clear h2
  by_cases h3 : a0_0 = 3
  · rw [if_pos h3] at h
    subst h3
    by_cases hr : 0 ≤ a0_3 ∧ a0_3 < 18446744073709551616
    · rw [if_pos hr] at h
      obtain rfl := Option.some.inj h
      obtain ⟨b, rfl⟩ : ∃ b : Nat, a0_3 = (b : Int) := ⟨a0_3.toNat, by omega⟩
      have HR := Aside0.mk hr
      clear hr h
      go_enter Try.func13, Try.ntmps13
      go_wp2_with fail
      go_loopw [3, 4] (fun v3 v4 wr => ∃ j : Nat, j ≤ 16 ∧ v4 = .int .i64 (60 - 4 * (j : Int)) ∧ Aside0 (Kd.R (Kd.int .u8) 5 wr w.heap.size (fun k => k ≠ w.heap.size) v3 (nums (hexTop b j))) ∧ Aside0 (Bx w wr w.heap.size #[.int .i64 3, .bool a0_1, .int .i64 a0_2, .int .u64 (b : Int), .string a0_4] 33)) (fun _ v4 _ => (intOf v4 + 4).toNat)
      case atStart => exact ⟨0, by omega, by go_num, ⟨Kd.R_nil _ _ _ _ _⟩, HX⟩
      case round =>
        clear HX z0 z1 z2 z3 z4 y0 y1 y2 y3 y4
        obtain ⟨j, hj, rfl, HO, HX⟩ := hrel
        obtain ⟨z0, z1, z2, z3, z4, y0, y1, y2, y3, y4⟩ := val5 HX.out.box
        by_cases hlt : j < 16
        · obtain ⟨X, hX⟩ : ∃ X : Nat, (b : Int) / 2 ^ (60 - 4 * j) = (X : Int) := ⟨b / 2 ^ (60 - 4 * j), by simp⟩
          have HXE : Aside0 (X = b / 16 ^ (15 - j)) := ⟨by rw [← hex_shift b j hlt]; have : ((b / 2 ^ (60 - 4 * j) : Nat) : Int) = (X : Int) := by rw [← hX]; simp
                                                           omega⟩
          have HD : Aside0 (nums (hexTop b j) ++ [bt (⟨#[48, 49, 50, 51, 52, 53, 54, 55, 56, 57, 97, 98, 99, 100, 101, 102]⟩ : ByteArray) ((X : Int) % 16)] = nums (hexTop b (j + 1))) := ⟨by
            rw [hexTop_succ, ← nums_snoc, show ((X : Int) % 16) = ((X % 16 : Nat) : Int) by omega, bt_hex _ (Nat.mod_lt _ (by decide)), HXE.out]; rfl⟩
          have hXs : (X : Int) < 18446744073709551616 := by
            have h1 := HR.out.2
            have h2 : X ≤ b := by rw [HXE.out]; exact Nat.div_le_self _ _
            omega
          have hand := u64_and15 (X : Int) (by omega) hXs
          have hx1 := eq_true (show (0 : Int) ≤ (X : Int) % 16 by omega)
          have hx2 := eq_true (show (X : Int) % 16 < (16 : Int) by omega)
          have hL : Aside0 ((nums (hexTop b j)).length = j) := ⟨by simp [nums, hexTop_length]⟩
          have hxb := bt_at (⟨#[48, 49, 50, 51, 52, 53, 54, 55, 56, 57, 97, 98, 99, 100, 101, 102]⟩ : ByteArray) ((X : Int) % 16)
          have HLT := Aside0.mk hlt
          have HJ := Aside0.mk hj
          clear hXs hlt hj
          have d1 : decide (4 * (j : Int) ≤ 60) = true := by have := HLT.out; simp; omega
          have d2 : (0 : Int) ≤ 60 - 4 * (j : Int) := by have := HLT.out; omega
          have d3 : 4 * (j : Int) ≤ 60 := by have := HLT.out; omega
          go_wp2_with (first | ((with_reducible refine gate_builtin (b := .append) (xs := #[.tmp 24, .tmp 31]) rfl ?_); at_builtin; refine Kd.R_append (Kd.int .u8) (w0 := w) w.heap.size rfl (.tmp 24) (.tmp 31) 55 5 (.int .u8 0) 1 rfl Try.underlying55 info5 rfl (by decide) (by omega) u3 (nums (hexTop b j)) (bt (⟨#[48, 49, 50, 51, 52, 53, 54, 55, 56, 57, 97, 98, 99, 100, 101, 102]⟩ : ByteArray) ((X : Int) % 16)) [.int .u8 (bt (⟨#[48, 49, 50, 51, 52, 53, 54, 55, 56, 57, 97, 98, 99, 100, 101, 102]⟩ : ByteArray) ((X : Int) % 16))] (fun k => k ≠ w.heap.size) (fun _ => False) rfl rfl rfl (fun _ hk => hk.elim) ?aF HO.out HX.out.b HX.out.b.size ?aL ?_; (case aF => intro k_ hk; have h1 := blk_lt HX.out.box; omega); (case aL => rw [hL.out]; have := HJ.out; omega); intro v1 w1 ho hb hg hat; have HO2 := Aside0.mk ho; have HB2 := Aside0.mk hb; have HG2 := Aside0.mk hg; clear ho hb hg hat))
          go_roundw
          case rel => exact ⟨j + 1, by have := HLT.out; omega, by go_num, ⟨by rw [← HD.out]; exact HO2.out⟩, ⟨⟨HB2.out, blk_grown HX.out.box HG2.out (Kd.R_ne HO.out HX.out.box (by decide)), Nat.le_refl _⟩⟩⟩
          case measure => have := HLT.out; simp [intOf]; omega
        · obtain rfl : j = 16 := by omega
          have hq : say_Quoted.f ⟨(hex16 b).toArray⟩ = some ⟨(quoted (hex16 b)).toArray⟩ := by
            unfold say_Quoted.f
            have hl : (⟨(hex16 b).toArray⟩ : ByteArray).size = 16 := hexTop_length b 16
            rw [if_pos (by rw [hl]; decide)]
          have HQ := Aside0.mk hq
          clear hq hlt hj
          have HV := Aside0.mk (own_string (P := Try.prog) Try.underlying55 Try.underlying5 Try.underlying9 (Kd.own_of_R HO.out))
          have hcv := HV.out
          rw [show strOfNums (nums (hexTop b 16)) = ⟨(hex16 b).toArray⟩ from strOfNums_nums _] at hcv
          clear HV
          have d1 : decide ((0 : Int) ≤ 60 - 4 * ((16 : Nat) : Int)) = false := by decide
          go_wp2_with fail
          refine (say_Quoted.calls _ _ _ HQ.out).mono ?_
          rintro e w2 ⟨rfl, hb⟩
          replace HX := Aside0.mk (HX.out.below hb)
          clear hb hcv
          have HF : Aside0 ((⟨#[102, 108, 111, 97, 116, 40]⟩ : ByteArray) ++ (⟨(quoted (hex16 b)).toArray⟩ : ByteArray) ++ (⟨#[41]⟩ : ByteArray) = ⟨(floatText b).toArray⟩) := ⟨by
            apply ba_ext; simp [floatText]⟩
          have hq1 : (quoted (hex16 b)).length ≤ 66 := by
            have := quoteBody_le (hex16 b); have h : (hex16 b).length = 16 := hexTop_length b 16
            unfold quoted; simp; omega
          have s0 : (⟨(quoted (hex16 b)).toArray⟩ : ByteArray).size = (quoted (hex16 b)).length := by show Array.size _ = _; simp
          have s1 : (⟨#[102, 108, 111, 97, 116, 40]⟩ : ByteArray).size = 6 := rfl
          have s2 : (⟨#[41]⟩ : ByteArray).size = 1 := rfl
          have c1 : ((⟨#[102, 108, 111, 97, 116, 40]⟩ : ByteArray) ++ (⟨(quoted (hex16 b)).toArray⟩ : ByteArray)).size ≤ 140737488351232 := by rw [ByteArray.size_append]; omega
          have c2 : (⟨(quoted (hex16 b)).toArray⟩ : ByteArray).size ≤ 140737488351232 := by omega
          clear s0 s1 s2 hq1
          generalize (⟨(quoted (hex16 b)).toArray⟩ : ByteArray) = Y at HF c1 c2 ⊢
          go_wp2_with fail
          go_ret
          exact ⟨by show Ending.returned (Value.string ((⟨#[102, 108, 111, 97, 116, 40]⟩ : ByteArray) ++ Y ++ (⟨#[41]⟩ : ByteArray))) = _; rw [HF.out]; rfl, HX.out.b⟩
    · rw [if_neg hr] at h; exact absurd h (by simp)
  rw [if_neg h3] at h
  have e3 : (a0_0 == 3) = false := by simpa using h3
  clear h3
  by_cases h4 : a0_0 = 4
  · rw [if_pos h4] at h
    subst h4
    have HR := Aside0.mk h
    clear h
    go_enter Try.func13, Try.ntmps13
    go_wp2_with fail
    refine (say_Quoted.calls _ _ _ HR.out).mono ?_
    rintro e w2 ⟨rfl, hb⟩
    replace HX := Aside0.mk (HX.out.below hb)
    clear hb
    go_wp2_with fail
    go_ret
    exact ⟨rfl, HX.out.b⟩
  rw [if_neg h4] at h
  have e4 : (a0_0 == 4) = false := by simpa using h4
  clear h4
  obtain rfl := Option.some.inj h
  go_enter Try.func13, Try.ntmps13
  go_wp2_with fail
  go_ret
  exact ⟨rfl, HX.out.b⟩

end Go.Proofs.Ytokkjnfdfbpphaa.A
namespace Go.Proofs.Ytokkjnfdfbpphaa.A
open Go.RowKit Go.Proofs.YtokkjnfdfbpphaaW.PrintWords Go.Proofs.YtokkjnfdfbpphaaW.PrintLast Go.Proofs.YtokkjnfdfbpphaaW.PrintMore
attribute [local go_sem] max2_int min2_int max_two min_two max_three min_three max_four min_four   -- for this text's walks alone
set_option linter.unusedVariables false
set_option linter.unusedSimpArgs false

/-! ### chartularyref23_Value: function 14 -/
def chartularyref23_Value.f (k : Nat) (a0_0 : Int) (a0_1 : Bool) (a0_2 : Int) (a0_3 : Int) (a0_4 : ByteArray) : Option (ByteArray) := if a0_0 = 0 then some ⟨#[110, 117, 108, 108]⟩ else if a0_0 = 1 then some (if a0_1 = true then ⟨#[116, 114, 117, 101]⟩ else ⟨#[102, 97, 108, 115, 101]⟩) else if a0_0 = 2 then chartularyref23_Whole.f k a0_2
  else if a0_0 = 3 then (if 0 ≤ a0_3 ∧ a0_3 < 18446744073709551616 then some ⟨(floatText a0_3.toNat).toArray⟩ else none) else if a0_0 = 4 then chartularyref23_Quoted.f a0_4 else some ⟨#[110, 111, 110, 101]⟩
theorem chartularyref23_Value.mono : ∀ a0 a1 a2 a3 a4 k, LeO (chartularyref23_Value.f k a0 a1 a2 a3 a4) (chartularyref23_Value.f (k + 1) a0 a1 a2 a3 a4) := by
  intro a0 a1 a2 a3 a4 k
  unfold chartularyref23_Value.f
  repeat' first
    | (with_reducible exact LeO.refl _)
    | (with_reducible exact LeO.none _)
    | (with_reducible exact chartularyref23_Whole.mono _ _)
    | (with_reducible refine LeO.ite ?_ ?_)
set_option maxRecDepth 100000 in
set_option maxHeartbeats 4000000 in
theorem chartularyref23_Value.calls (k : Nat) (a0_0 : Int) (a0_1 : Bool) (a0_2 : Int) (a0_3 : Int) (a0_4 : ByteArray) (r : ByteArray) (w : World) (h : chartularyref23_Value.f k a0_0 a0_1 a0_2 a0_3 a0_4 = some r) :
    Calls Try.prog 14 #[.agg #[.int .i64 a0_0, .bool a0_1, .int .i64 a0_2, .int .u64 a0_3, .string a0_4]] w fun e w' => e = .returned (.string r) ∧ Below w.heap.size w w' := by
  unfold chartularyref23_Value.f at h
  have HX := Aside0.mk (Bx.start w #[.int .i64 a0_0, .bool a0_1, .int .i64 a0_2, .int .u64 a0_3, .string a0_4] 33)
  obtain ⟨z0, z1, z2, z3, z4, y0, y1, y2, y3, y4⟩ := val5 HX.out.box
  by_cases h0 : a0_0 = 0
  · rw [if_pos h0] at h
    subst h0
    obtain rfl := Option.some.inj h
    go_enter Try.func14, Try.ntmps14
    go_wp2_with fail
    go_ret
    exact ⟨rfl, HX.out.b⟩
  rw [if_neg h0] at h
  have e0 : (a0_0 == 0) = false := by simpa using h0
  clear h0
  by_cases h1 : a0_0 = 1
  · rw [if_pos h1] at h
    subst h1
    obtain rfl := Option.some.inj h
    cases a0_1 with
    | true =>
      go_enter Try.func14, Try.ntmps14
      go_wp2_with fail
      go_ret
      exact ⟨rfl, HX.out.b⟩
    | false =>
      go_enter Try.func14, Try.ntmps14
      go_wp2_with fail
      go_ret
      exact ⟨rfl, HX.out.b⟩
  rw [if_neg h1] at h
  have e1 : (a0_0 == 1) = false := by simpa using h1
  clear h1
  by_cases h2 : a0_0 = 2
  · rw [if_pos h2] at h
    subst h2
    have HR := Aside0.mk h
    clear h
    go_enter Try.func14, Try.ntmps14
    go_wp2_with fail
    refine (chartularyref23_Whole.calls k _ _ _ HR.out).mono ?_
    rintro e w2 ⟨rfl, hb⟩
    replace HX := Aside0.mk (HX.out.below hb)
    clear hb
    go_wp2_with fail
    go_ret
    exact ⟨rfl, HX.out.b⟩
  rw [if_neg h2] at h
  have e2 : (a0_0 == 2) = false := by simpa using h2
  clear h2
  by_cases h3 : a0_0 = 3
  · rw [if_pos h3] at h
    subst h3
    by_cases hr : 0 ≤ a0_3 ∧ a0_3 < 18446744073709551616
    · rw [if_pos hr] at h
      obtain rfl := Option.some.inj h
      obtain ⟨b, rfl⟩ : ∃ b : Nat, a0_3 = (b : Int) := ⟨a0_3.toNat, by omega⟩
      have HR := Aside0.mk hr
      clear hr h
      go_enter Try.func14, Try.ntmps14
      go_wp2_with fail
      go_loopw [4, 5, 6, 7] (fun v4 v5 v6 v7 wr => ∃ (j B : Nat) (O : ByteArray), j ≤ 16 ∧ v6 = .int .i64 (j : Int) ∧ v5 = .int .u64 (B : Int) ∧ v4 = .string O ∧ Aside0 (B = b / 16 ^ j) ∧ Aside0 (O = ⟨(hexLow b j).toArray⟩) ∧ Aside0 (Below w.heap.size w wr)) (fun _ _ v6 _ _ => 16 - (intOf v6).toNat)
      case atStart => exact ⟨0, b, _, by omega, rfl, rfl, rfl, ⟨by simp⟩, ⟨rfl⟩, ⟨HX.out.b⟩⟩
      case round =>
        clear HX z0 z1 z2 z3 z4 y0 y1 y2 y3 y4
        obtain ⟨j, B, O, hj, rfl, rfl, rfl, HB, HO, HW⟩ := hrel
        have hOs : O.size = j := by rw [HO.out]; show Array.size _ = _; simp [hexLow_length]
        by_cases hlt : j < 16
        · obtain ⟨X, hX⟩ : ∃ X : ByteArray, X = ⟨#[48, 49, 50, 51, 52, 53, 54, 55, 56, 57, 97, 98, 99, 100, 101, 102]⟩ := ⟨_, rfl⟩
          have HXX : Aside0 (∀ m : Nat, m < 16 → X.extract m (m + 1) = ⟨[hexDigit m].toArray⟩) := ⟨fun m hm => by
            subst hX
            exact hex_ext m hm⟩
          have hXs : X.size = 16 := by rw [hX]; rfl
          have HXD := Aside0.mk hX
          rw [← hX]
          clear hX
          have hBb : B < 18446744073709551616 := by
            have h1 := HR.out.2
            have h2 : B ≤ b := by rw [HB.out]; exact Nat.div_le_self _ _
            omega
          have HN : Aside0 (B % 16 < 16 ∧ hexDigit (B % 16) = hexD b j ∧ B / 16 = b / 16 ^ (j + 1)) := ⟨by omega, by rw [HB.out]; rfl, by rw [HB.out, Nat.div_div_eq_div_mul, Nat.pow_succ]⟩
          have hx0 : (0 : Int) ≤ (B : Int) := by omega
          have hx9 : (B : Int) < 18446744073709551616 := by omega
          have hx1 : (0 : Int) ≤ (B : Int) % 16 := by omega
          have hx2 : (B : Int) % 16 < 16 := by omega
          have s3 : (B : Int) % 16 ≤ (B : Int) % 16 + 1 := by omega
          have s5 : (B : Int) % 16 + 1 ≤ (X.size : Int) := by rw [hXs]; omega
          have s6 : ((B : Int) % 16 + 1).toNat = B % 16 + 1 := by omega
          have s7 : ((B : Int) % 16).toNat = B % 16 := by omega
          have z0 : O.size ≤ 140737488351232 := by omega
          have z1 : (X.extract (B % 16) (B % 16 + 1)).size ≤ 140737488351232 := by simp; omega
          have HJ := Aside0.mk hj
          have HLT := Aside0.mk hlt
          clear hXs hOs hBb hj
          have d1 : decide ((j : Int) < 16) = true := by have := HLT.out; simp; omega
          go_wp2_with fail
          go_roundw
          case rel => exact ⟨j + 1, B / 16, _, by have := HLT.out; omega, by go_num, by first | rfl | simp, rfl, ⟨HN.out.2.2⟩, ⟨by rw [HO.out, HXX.out _ HN.out.1, hexLow_succ, HN.out.2.1]; apply ba_ext; simp⟩, HW⟩
          case measure => have := HLT.out; simp [intOf]; omega
        · obtain rfl : j = 16 := by omega
          have hq : chartularyref23_Quoted.f O = some ⟨(quoted (hex16 b)).toArray⟩ := by
            unfold chartularyref23_Quoted.f
            rw [if_pos (by omega), HO.out, hexLow_16]
          have HQ := Aside0.mk hq
          clear hq hlt hj hOs
          go_wp2_with fail
          refine (chartularyref23_Quoted.calls _ _ _ HQ.out).mono ?_
          rintro e w2 ⟨rfl, hb⟩
          obtain ⟨⟨n, rfl⟩⟩ := hb
          have HF : Aside0 ((⟨#[102, 108, 111, 97, 116, 40]⟩ : ByteArray) ++ (⟨(quoted (hex16 b)).toArray⟩ : ByteArray) ++ (⟨#[41]⟩ : ByteArray) = ⟨(floatText b).toArray⟩) := ⟨by
            apply ba_ext; simp [floatText]⟩
          have hq1 : (quoted (hex16 b)).length ≤ 66 := by
            have := quoteBody_le (hex16 b); have h : (hex16 b).length = 16 := hexTop_length b 16
            unfold quoted; simp; omega
          have s0 : (⟨(quoted (hex16 b)).toArray⟩ : ByteArray).size = (quoted (hex16 b)).length := by show Array.size _ = _; simp
          have s1 : (⟨#[102, 108, 111, 97, 116, 40]⟩ : ByteArray).size = 6 := rfl
          have s2 : (⟨#[41]⟩ : ByteArray).size = 1 := rfl
          have c1 : ((⟨#[102, 108, 111, 97, 116, 40]⟩ : ByteArray) ++ (⟨(quoted (hex16 b)).toArray⟩ : ByteArray)).size ≤ 140737488351232 := by rw [ByteArray.size_append]; omega
          have c2 : (⟨(quoted (hex16 b)).toArray⟩ : ByteArray).size ≤ 140737488351232 := by omega
          clear s0 s1 s2 hq1
          generalize (⟨(quoted (hex16 b)).toArray⟩ : ByteArray) = Y at HF c1 c2 ⊢
          go_wp2_with fail
          go_ret
          exact ⟨by show Ending.returned (Value.string ((⟨#[102, 108, 111, 97, 116, 40]⟩ : ByteArray) ++ Y ++ (⟨#[41]⟩ : ByteArray))) = _; rw [HF.out]; rfl, pw_below_drewN HW.out _⟩
    · rw [if_neg hr] at h; exact absurd h (by simp)
  rw [if_neg h3] at h
  have e3 : (a0_0 == 3) = false := by simpa using h3
  clear h3
  by_cases h4 : a0_0 = 4
  · rw [if_pos h4] at h
    subst h4
    have HR := Aside0.mk h
    clear h
    go_enter Try.func14, Try.ntmps14
    go_wp2_with fail
    refine (chartularyref23_Quoted.calls _ _ _ HR.out).mono ?_
    rintro e w2 ⟨rfl, hb⟩
    obtain ⟨⟨n, rfl⟩⟩ := hb
    go_wp2_with fail
    go_ret
    exact ⟨rfl, pw_below_drewN HX.out.b _⟩
  rw [if_neg h4] at h
  have e4 : (a0_0 == 4) = false := by simpa using h4
  clear h4
  obtain rfl := Option.some.inj h
  go_enter Try.func14, Try.ntmps14
  go_wp2_with fail
  go_ret
  exact ⟨rfl, HX.out.b⟩

end Go.Proofs.Ytokkjnfdfbpphaa.A
namespace Go.Proofs.Ytokkjnfdfbpphaa.A
open Go.RowKit Go.Proofs.YtokkjnfdfbpphaaW.PrintWords Go.Proofs.YtokkjnfdfbpphaaW.PrintLast Go.Proofs.YtokkjnfdfbpphaaW.PrintMore
attribute [local go_sem] max2_int min2_int max_two min_two max_three min_three max_four min_four   -- for this text's walks alone
set_option linter.unusedVariables false
set_option linter.unusedSimpArgs false

/-! what stands in a list of tokens is read -/
abbrev Tks := List (Int × List UInt8)
def Stands (s0 : List S28) (n : Nat) (ts : Tks) : Prop := ts <+: (s0.drop n).map tkOf
theorem Stands.cons {s0 : List S28} {n : Nat} {k : Int} {t : List UInt8} {ts : Tks} (h : Stands s0 n ((k, t) :: ts)) :
    n < s0.length ∧ (rd_T28 s0 (n : Int)).f0 = k ∧ (rd_T28 s0 (n : Int)).f1 = ⟨t.toArray⟩ ∧ Stands s0 (n + 1) ts := by
  unfold Stands at h
  by_cases hn : n < s0.length
  · rw [List.drop_eq_getElem_cons hn, List.map_cons, List.cons_prefix_cons] at h
    obtain ⟨h1, h2⟩ := h
    have e : rd_T28 s0 (n : Int) = s0[n] := by simp [rd_T28, List.getD_eq_getElem?_getD, hn]
    rw [e]
    simp only [tkOf, Prod.mk.injEq] at h1
    exact ⟨hn, h1.1.symm, ba_ext h1.2.symm, h2⟩
  · rw [List.drop_eq_nil_of_le (by omega)] at h
    simp at h
theorem Stands.append {s0 : List S28} {n : Nat} {a b : Tks} (h : Stands s0 n (a ++ b)) : Stands s0 n a ∧ Stands s0 (n + a.length) b := by
  unfold Stands at *
  obtain ⟨r, hr⟩ := h
  refine ⟨⟨b ++ r, by rw [← List.append_assoc, hr]⟩, ⟨r, ?_⟩⟩
  rw [← List.drop_drop, List.map_drop, ← hr]
  simp
theorem Stands.le {s0 : List S28} {n : Nat} {a : Tks} (h : Stands s0 n a) (ha : a ≠ []) : n + a.length ≤ s0.length := by
  have := h.length_le
  rw [List.length_map, List.length_drop] at this
  have : 0 < a.length := List.length_pos_iff.2 ha
  omega
theorem wrap_small (n : Nat) (h : n ≤ 1000000) : wrap64 ((n : Int) + 1) = ((n + 1 : Nat) : Int) := by unfold wrap64; omega
theorem take_ok {s0 : List S28} {n : Nat} {k : Int} {t : List UInt8} {ts : Tks} (e : Int) (h : Stands s0 n ((k, t) :: ts)) (hl : s0.length ≤ 1000000) :
    say_parser_take.f s0 n e (-1) k = some (⟨t.toArray⟩, ((n + 1 : Nat) : Int), e, -1) := by
  obtain ⟨h1, h2, h3, _⟩ := h.cons
  unfold say_parser_take.f
  have w : wrap64 (((n + 1 : Nat) : Int) - 1) = (n : Int) := by unfold wrap64; omega
  rw [if_neg (by decide), if_neg (by omega), if_pos (by omega), if_pos (by omega), if_pos h2, wrap_small n (by omega), w, if_pos (by omega), if_pos (by omega), h3]
theorem peek_yes {s0 : List S28} {n : Nat} {t : List UInt8} {ts : Tks} (e : Int) (h : Stands s0 n ((3, t) :: ts)) : say_parser_peek.f s0 n e (-1) ⟨t.toArray⟩ = some (true, (n : Int), e, -1) := by
  obtain ⟨h1, h2, h3, _⟩ := h.cons
  unfold say_parser_peek.f
  rw [if_pos (by decide), if_pos (by omega), if_pos (by omega), if_pos h2, h3]; simp
theorem mark_ok {s0 : List S28} {n : Nat} {t : List UInt8} {ts : Tks} (e : Int) (h : Stands s0 n ((3, t) :: ts)) (hl : s0.length ≤ 1000000) : say_parser_mark.f s0 n e (-1) ⟨t.toArray⟩ = some (((n + 1 : Nat) : Int), e, -1) := by
  have h1 := h.cons.1
  unfold say_parser_mark.f
  rw [peek_yes e h]
  simp only [Option.bind_some, if_true]
  rw [wrap_small n (by omega)]
theorem peek_no {s0 : List S28} {n : Nat} {k : Int} {t m : List UInt8} {ts : Tks} (e : Int) (h : Stands s0 n ((k, t) :: ts)) (hne : k ≠ 3 ∨ t ≠ m) : say_parser_peek.f s0 n e (-1) ⟨m.toArray⟩ = some (false, (n : Int), e, -1) := by
  obtain ⟨h1, h2, h3, _⟩ := h.cons
  unfold say_parser_peek.f
  rw [if_pos (by decide), if_pos (by omega), if_pos (by omega)]
  by_cases hk : k = 3
  · rw [if_pos (by rw [h2, hk]), h3]
    have : t ≠ m := hne.resolve_left (fun f => f hk)
    simp [this]
  · rw [if_neg (by rw [h2]; exact hk)]
theorem number_ok {s0 : List S28} {n : Nat} {x : Int} {ts : Tks} (e : Int) (h : Stands s0 n ((1, intText x) :: ts)) (hl : s0.length ≤ 1000000) (h1 : -9223372036854775808 ≤ x) (h2 : x < 9223372036854775808) :
    say_parser_number.f s0 n e (-1) = some (x, ((n + 1 : Nat) : Int), e, -1) := by
  unfold say_parser_number.f
  rw [take_ok e h hl]
  have hp : 0 < (intText x).length := List.length_pos_iff.2 (intText_ne x)
  simp only [Option.bind_some]
  rw [if_neg (by decide), if_pos (by show 0 < Array.size _; simpa using hp), numVal_int x h1 h2]
theorem count_ok {s0 : List S28} {n : Nat} {x : Nat} {ts : Tks} (e : Int) (k : Nat) (hk : 1 ≤ k) (h : Stands s0 n ((1, dec x) :: ts)) (hl : s0.length ≤ 1000000) (h2 : x < 18446744073709551616) :
    say_parser_count.f k s0 n e (-1) = some ((x : Int), ((n + 1 : Nat) : Int), e, -1) := by
  obtain ⟨k, rfl⟩ : ∃ m, k = m + 1 := ⟨k - 1, by omega⟩
  unfold say_parser_count.f
  rw [take_ok e h hl]
  have hd : say_digits.f ⟨(dec x).toArray⟩ = some ((x : Int), true) := by
    unfold say_digits.f
    show (match digitsOf (dec x) with | some n => _ | none => _) = _
    rw [digitsOf_dec x h2]
  simp only [Option.bind_some]
  rw [hd]
  simp only [Option.bind_some]
  rw [if_pos (by decide), say_parser_count.j0]; rfl
theorem nibble_hex (n : Nat) (h : n < 16) : say_nibble.f ((hexDigit n).toNat : Int) = some (n : Int) := by
  have key : ∀ m : Fin 16, say_nibble.f ((hexDigit m.1).toNat : Int) = some (m.1 : Int) := by decide
  exact key ⟨n, h⟩
theorem hexLow_get (b j : Nat) (h : j < 16) : (hex16 b)[j]'(by rw [show (hex16 b).length = 16 from hexTop_length b 16]; exact h) = hexD b (15 - j) := by simp [hex16, hexTop]
theorem or_hex (a d : Nat) (ha : a < 1152921504606846976) (hd : d < 16) : Go.bits .or .u64 (IntKind.u64.wrap ((a : Int) * 16)) (IntKind.u64.wrap (d : Int)) = ((a * 16 + d : Nat) : Int) := by
  rw [wraps_u64 _ (by omega) (by omega), wraps_u64 _ (by omega) (by omega)]
  rw [bits_join .u64 64 (by decide) wraps_u64 4 ((a : Int) * 16) (d : Int) (by omega) (by omega) (by omega) (by omega) (by omega) (by omega)]
  omega
theorem float_loop {s0 : List S28} {n : Nat} {ts : Tks} (e at_ : Int) (b : Nat) (hb : b < 18446744073709551616) (h : Stands s0 n ((3, [41]) :: ts)) (hl : s0.length ≤ 1000000) :
    ∀ (i j k : Nat), j + i = 16 → i < k → say_parser_float.l0 k at_ ⟨(hex16 b).toArray⟩ 16 (j : Int) s0 n e (-1) 3 false 0 ((b / 16 ^ (16 - j) : Nat) : Int) ⟨#[]⟩ = some (3, false, 0, (b : Int), ⟨#[]⟩, ((n + 1 : Nat) : Int), e, -1) := by
  have hsz : (⟨(hex16 b).toArray⟩ : ByteArray).size = 16 := hexTop_length b 16
  intro i
  induction i with
  | zero =>
    intro j k hj hk
    obtain ⟨k, rfl⟩ : ∃ m, k = m + 1 := ⟨k - 1, by omega⟩
    obtain rfl : j = 16 := by omega
    rw [say_parser_float.l0, if_neg (by decide), if_neg (by
      intro h0
      have : (⟨(hex16 b).toArray⟩ : ByteArray).toList.length = 16 := by rw [Lib.toList_data]; exact hexTop_length b 16
      rw [h0] at this; exact absurd this (by decide))]
    rw [show (⟨#[41]⟩ : ByteArray) = ⟨[41].toArray⟩ from rfl, mark_ok e h hl]
    simp
  | succ i ih =>
    intro j k hj hk
    obtain ⟨k, rfl⟩ : ∃ m, k = m + 1 := ⟨k - 1, by omega⟩
    rw [say_parser_float.l0, if_pos (by omega), if_pos (by omega), if_pos (by rw [hsz]; omega)]
    have hbt : bt ⟨(hex16 b).toArray⟩ (j : Int) = ((hexD b (15 - j)).toNat : Int) := by
      rw [← hexLow_get b j (by omega)]
      unfold bt
      rw [dif_pos (by rw [hsz]; omega)]
      rfl
    rw [hbt]
    unfold hexD
    rw [nibble_hex _ (Nat.mod_lt _ (by decide))]
    simp only [Option.bind_some]
    rw [if_neg (by omega), if_pos (by rw [hsz]; rfl)]
    have hsm : b / 16 ^ (16 - j) < 1152921504606846976 := by
      have : b / 16 ^ (16 - j) ≤ b / 16 := by
        rw [show 16 - j = 1 + i by omega, Nat.pow_add, Nat.pow_one, ← Nat.div_div_eq_div_mul]
        exact Nat.div_le_self _ _
      omega
    rw [or_hex _ _ hsm (Nat.mod_lt _ (by decide))]
    have e1 : b / 16 ^ (16 - j) * 16 + b / 16 ^ (15 - j) % 16 = b / 16 ^ (16 - (j + 1)) := by
      rw [show 16 - j = (15 - j) + 1 by omega, Nat.pow_succ, ← Nat.div_div_eq_div_mul, show 16 - (j + 1) = 15 - j by omega]
      omega
    rw [e1, show wrap64 ((j : Int) + 1) = ((j + 1 : Nat) : Int) from wrap_small j (by omega)]
    exact ih (j + 1) k (by omega) (by omega)
def valText (x : S33) : List UInt8 :=
  if x.f0 = 0 then [110, 117, 108, 108] else if x.f0 = 1 then (if x.f1 = true then [116, 114, 117, 101] else [102, 97, 108, 115, 101]) else if x.f0 = 2 then intText x.f2 else if x.f0 = 3 then floatText x.f3.toNat
  else if x.f0 = 4 then quoted x.f4.data.toList else [110, 111, 110, 101]
def valToks (x : S33) : Tks :=
  if x.f0 = 0 then [(0, [110, 117, 108, 108])] else if x.f0 = 1 then [(0, if x.f1 = true then [116, 114, 117, 101] else [102, 97, 108, 115, 101])] else if x.f0 = 2 then [(1, intText x.f2)]
  else if x.f0 = 3 then [(0, [102, 108, 111, 97, 116]), (3, [40]), (2, hex16 x.f3.toNat), (3, [41])] else if x.f0 = 4 then [(2, x.f4.data.toList)] else [(0, [110, 111, 110, 101])]
structure Okv (x : S33) : Prop where
  i0 : -9223372036854775808 ≤ x.f2
  i1 : x.f2 < 9223372036854775808
  b0 : 0 ≤ x.f3
  b1 : x.f3 < 18446744073709551616
  t : x.f4.size ≤ 1000000
theorem Lexes.val (x : S33) : Lexes false (valText x) (valToks x) := by
  unfold valText valToks
  by_cases h0 : x.f0 = 0
  · rw [if_pos h0, if_pos h0]; exact Lexes.word _ _ (by decide) (by decide)
  rw [if_neg h0, if_neg h0]
  by_cases h1 : x.f0 = 1
  · rw [if_pos h1, if_pos h1]
    cases x.f1
    · exact Lexes.word _ _ (by decide) (by decide)
    · exact Lexes.word _ _ (by decide) (by decide)
  rw [if_neg h1, if_neg h1]
  by_cases h2 : x.f0 = 2
  · rw [if_pos h2, if_pos h2]; exact Lexes.int _
  rw [if_neg h2, if_neg h2]
  by_cases h3 : x.f0 = 3
  · rw [if_pos h3, if_pos h3]
    have a := Lexes.append (Lexes.word 102 [108, 111, 97, 116] (by decide) (by decide)) (Lexes.append (Lexes.mark 40 (by decide)) (Lexes.append (Lexes.quote (hex16 x.f3.toNat)) (Lexes.mark 41 (by decide)) (.inl rfl)) (.inl rfl)) (.inr ⟨by simp, by show isWord 40 = false; decide⟩)
    have e : floatText x.f3.toNat = [102, 108, 111, 97, 116] ++ ([40] ++ (quoted (hex16 x.f3.toNat) ++ [41])) := by simp [floatText]
    rw [e]
    exact a.weak
  rw [if_neg h3, if_neg h3]
  by_cases h4 : x.f0 = 4
  · rw [if_pos h4, if_pos h4]; exact (Lexes.quote _).weak
  rw [if_neg h4, if_neg h4]
  exact Lexes.word _ _ (by decide) (by decide)
theorem say_Value_text (x : S33) (k : Nat) (hx : Okv x) (hk : 50 ≤ k) : say_Value.f k x.f0 x.f1 x.f2 x.f3 x.f4 = some ⟨(valText x).toArray⟩ := by
  have ht := hx.t
  unfold say_Value.f valText
  repeat' split
  all_goals first
    | rfl
    | (exact say_whole_int _ _ hx.i0 hx.i1 hk)
    | (unfold say_Quoted.f; rw [if_pos (by omega)])
    | (rename_i h; exact absurd ⟨hx.b0, hx.b1⟩ h)
theorem ref_Value_text (x : S33) (k : Nat) (hx : Okv x) (hk : 50 ≤ k) : chartularyref23_Value.f k x.f0 x.f1 x.f2 x.f3 x.f4 = some ⟨(valText x).toArray⟩ := by
  have ht := hx.t
  unfold chartularyref23_Value.f valText
  repeat' split
  all_goals first
    | rfl
    | (exact ref_whole_int _ _ hx.i0 hx.i1 hk)
    | (unfold chartularyref23_Quoted.f; rw [if_pos (by omega)])
    | (rename_i h; exact absurd ⟨hx.b0, hx.b1⟩ h)
/-- What a script can say of a value. -/
def saidV (x : S33) : S33 := ⟨x.f0, if x.f0 = 1 then x.f1 else false, if x.f0 = 2 then x.f2 else 0, if x.f0 = 3 then x.f3 else 0, if x.f0 = 4 then x.f4 else ⟨#[]⟩⟩
theorem value_ok {s0 : List S28} {n : Nat} {ts : Tks} (e : Int) (x : S33) (k : Nat) (hk : 50 ≤ k) (hx : Okv x) (h : Stands s0 n (valToks x ++ ts)) (hl : s0.length ≤ 1000000) (h0 : 0 ≤ x.f0) (h5 : x.f0 ≤ 4) :
    say_parser_value.f k s0 n e (-1) = some ((saidV x).f0, (saidV x).f1, (saidV x).f2, (saidV x).f3, (saidV x).f4, ((n + (valToks x).length : Nat) : Int), e, -1) := by
  have hcase : x.f0 = 0 ∨ x.f0 = 1 ∨ x.f0 = 2 ∨ x.f0 = 3 ∨ x.f0 = 4 := by omega
  unfold say_parser_value.f
  rw [if_neg (by decide)]
  rcases hcase with hc | hc | hc | hc | hc
  · have ev : valToks x = [(0, [110, 117, 108, 108])] := by unfold valToks; rw [if_pos hc]
    rw [ev] at h ⊢
    obtain ⟨g1, g2, g3, _⟩ := h.cons
    rw [if_neg (by omega), if_pos (by omega), if_neg (by rw [g2]; decide), if_neg (by rw [g2]; decide), if_pos g2, g3]
    unfold say_parser_word.f
    rw [if_pos (by rw [Lib.toList_data]), wrap_small n (by omega)]
    simp [saidV, hc]
  · have ev : valToks x = [(0, if x.f1 = true then [116, 114, 117, 101] else [102, 97, 108, 115, 101])] := by unfold valToks; rw [if_neg (by omega), if_pos hc]
    rw [ev] at h ⊢
    obtain ⟨g1, g2, g3, _⟩ := h.cons
    rw [if_neg (by omega), if_pos (by omega), if_neg (by rw [g2]; decide), if_neg (by rw [g2]; decide), if_pos g2, g3]
    obtain ⟨k, rfl⟩ : ∃ m, k = m + 1 := ⟨k - 1, by omega⟩
    unfold say_parser_word.f
    cases hf : x.f1
    · rw [if_neg (by rw [Lib.toList_data]; decide), if_neg (by rw [Lib.toList_data]; decide), say_parser_word.j0, if_pos (by rw [Lib.toList_data]; decide), wrap_small n (by omega)]
      simp [saidV, hc, hf, Lib.toList_data]
    · rw [if_neg (by rw [Lib.toList_data]; decide), if_pos (by rw [Lib.toList_data]; decide), say_parser_word.j0, if_pos (by rw [Lib.toList_data]; decide), wrap_small n (by omega)]
      simp [saidV, hc, hf, Lib.toList_data]
  · have ev : valToks x = [(1, intText x.f2)] := by unfold valToks; rw [if_neg (by omega), if_neg (by omega), if_pos hc]
    rw [ev] at h ⊢
    obtain ⟨g1, g2, g3, _⟩ := h.cons
    rw [if_neg (by omega), if_pos (by omega), if_pos g2, number_ok e h hl hx.i0 hx.i1]
    simp [saidV, hc]
  · have ev : valToks x = [(0, [102, 108, 111, 97, 116]), (3, [40]), (2, hex16 x.f3.toNat), (3, [41])] := by unfold valToks; rw [if_neg (by omega), if_neg (by omega), if_neg (by omega), if_pos hc]
    rw [ev] at h ⊢
    obtain ⟨g1, g2, g3, ha⟩ := h.cons
    rw [if_neg (by omega), if_pos (by omega), if_neg (by rw [g2]; decide), if_neg (by rw [g2]; decide), if_pos g2, g3]
    obtain ⟨k, rfl⟩ : ∃ m, k = m + 1 := ⟨k - 1, by omega⟩
    unfold say_parser_word.f
    rw [if_neg (by rw [Lib.toList_data]; decide), if_neg (by rw [Lib.toList_data]; decide), say_parser_word.j0, if_neg (by rw [Lib.toList_data]; decide), if_pos (by rw [Lib.toList_data]), wrap_small n (by omega)]
    obtain ⟨_, _, _, hb⟩ := ha.cons
    obtain ⟨_, _, _, hd⟩ := hb.cons
    have hsz : (⟨(hex16 x.f3.toNat).toArray⟩ : ByteArray).size = 16 := hexTop_length _ 16
    have hF : say_parser_float.f k s0 ((n + 1 : Nat) : Int) e (-1) = some (3, false, 0, x.f3, ⟨#[]⟩, ((n + 3 + 1 : Nat) : Int), e, -1) := by
      unfold say_parser_float.f
      rw [show (⟨#[40]⟩ : ByteArray) = ⟨[40].toArray⟩ from rfl, mark_ok e ha hl]
      simp only [Option.bind_some]
      rw [take_ok e hb hl]
      simp only [Option.bind_some]
      rw [if_neg (by decide), hsz]
      have e16 : (16 : Nat) ^ 16 = 18446744073709551616 := by decide
      have hz : x.f3.toNat / 16 ^ 16 = 0 := Nat.div_eq_of_lt (by have := hx.b1; omega)
      have := float_loop (s0 := s0) (n := n + 3) e ((n + 1 + 1 : Nat) : Int) x.f3.toNat (by have := hx.b1; have := hx.b0; omega) hd hl 16 0 k (by omega) (by omega)
      rw [show 16 - 0 = 16 from rfl, hz] at this
      rw [show ((x.f3.toNat : Nat) : Int) = x.f3 from Int.toNat_of_nonneg hx.b0] at this
      exact this
    rw [hF]
    simp [saidV, hc]
    omega
  · have ev : valToks x = [(2, x.f4.data.toList)] := by unfold valToks; rw [if_neg (by omega), if_neg (by omega), if_neg (by omega), if_neg (by omega), if_pos hc]
    rw [ev] at h ⊢
    obtain ⟨g1, g2, g3, _⟩ := h.cons
    rw [if_neg (by omega), if_pos (by omega), if_neg (by rw [g2]; decide), if_pos g2, g3, wrap_small n (by omega)]
    simp [saidV, hc]

end Go.Proofs.Ytokkjnfdfbpphaa.A
namespace Go.Proofs.Ytokkjnfdfbpphaa.A
open Go.RowKit Go.Proofs.YtokkjnfdfbpphaaW.PrintWords Go.Proofs.YtokkjnfdfbpphaaW.PrintLast Go.Proofs.YtokkjnfdfbpphaaW.PrintMore
attribute [local go_sem] max2_int min2_int max_two min_two max_three min_three max_four min_four   -- for this text's walks alone
set_option linter.unusedVariables false
set_option linter.unusedSimpArgs false

/-! ### say_TakeValue: function 15 -/
def say_TakeValue.f (k : Nat) (l0 : List (S28)) : Option (Int × Bool × Int × Int × ByteArray × Int × Bool) := (say_parser_value.f k l0 0 0 (-1)).bind fun q => if q.2.2.2.2.2.2.2 ≥ 0 then some (0, false, 0, 0, ⟨#[]⟩, 0, false) else some (q.1, q.2.1, q.2.2.1, q.2.2.2.1, q.2.2.2.2.1, q.2.2.2.2.2.1, true)
theorem say_TakeValue.mono : ∀ a0 k, LeO (say_TakeValue.f k a0) (say_TakeValue.f (k + 1) a0) := by
  intro a0 k
  unfold say_TakeValue.f
  exact LeO.bind (say_parser_value.mono _ _ _ _ _) (fun _ => LeO.refl _)
set_option maxRecDepth 100000 in
set_option maxHeartbeats 4000000 in
theorem say_TakeValue.calls (k : Nat) (A0 : Option Addr) (c0 : Nat) (l0 : List (S28)) (r1 : Int) (r2 : Bool) (r3 : Int) (r4 : Int) (r5 : ByteArray) (r6 : Int) (r7 : Bool) (w : World) (hr0 : Kd.C k28 w A0 l0.length l0) (hc0 : l0.length ≤ c0) (h : say_TakeValue.f k l0 = some (r1, r2, r3, r4, r5, r6, r7)) :
    Calls Try.prog 15 #[.slice A0 l0.length c0] w fun e w' => e = .returned (.tuple #[.agg #[.int .i64 r1, .bool r2, .int .i64 r3, .int .u64 r4, .string r5], .int .i64 r6, .bool r7]) ∧ Below w.heap.size w w' := by
  unfold say_TakeValue.f at h
  obtain ⟨⟨q1, q2, q3, q4, q5, q6, q7, q8⟩, hq, h⟩ := Option.bind_eq_some_iff.mp h
  have HQ := Aside0.mk hq
  have HR := Aside0.mk hr0
  clear hq hr0
  have HF0 : Aside0 (Fr w w ((w.alloc (.cells #[.int .i64 0, .bool false, .int .i64 0, .int .u64 0, .string ⟨#[]⟩] 33)).alloc (.cells #[.slice A0 l0.length c0, .int .i64 0, .int .i64 0, .int .i64 (-1)] 74)) (w.heap.size + 1) l0 0 0 (-1) w.heap.size #[.int .i64 0, .bool false, .int .i64 0, .int .u64 0, .string ⟨#[]⟩] 33) := ⟨by
    have hb : Below w.heap.size w ((w.alloc (.cells #[.int .i64 0, .bool false, .int .i64 0, .int .u64 0, .string ⟨#[]⟩] 33)).alloc (.cells #[.slice A0 l0.length c0, .int .i64 0, .int .i64 0, .int .i64 (-1)] 74)) := below_alloc (below_alloc (Below.refl _ _) _) _
    refine ⟨⟨A0, c0, ?_, by omega, HR.out⟩, hb, KeepBut.of_below hb _ _, Nat.le_refl _, Nat.le_refl _, by omega, blk_alloc (blk_new w _) _⟩
    have := blk_new (w.alloc (.cells #[.int .i64 0, .bool false, .int .i64 0, .int .u64 0, .string ⟨#[]⟩] 33)) (.cells #[.slice A0 l0.length c0, .int .i64 0, .int .i64 0, .int .i64 (-1)] 74)
    simpa using this⟩
  clear HR
  go_enter Try.func15, Try.ntmps15
  go_wp2_with fail
  refine (say_parser_value.calls k (w.heap.size + 1) l0 0 0 (-1) q1 q2 q3 q4 q5 q6 q7 q8 w _ HF0.out.i HF0.out.b HQ.out).mono ?_
  rintro e w2 ⟨rfl, hi, hb2, hk⟩
  have HF := Aside0.mk ((HF0.out.call hi hb2 hk).alloc (.cells #[.int .i64 q1, .bool q2, .int .i64 q3, .int .u64 q4, .string q5] 33))
  have HV := Aside0.mk (blk_new w2 (.cells #[.int .i64 q1, .bool q2, .int .i64 q3, .int .u64 q4, .string q5] 33))
  clear hi hb2 hk HQ HF0
  obtain ⟨A1, c1, hc0, hc1, hc2, hc3, hz1, hz3, hC⟩ := HF.out.facts
  by_cases hd : q8 ≥ 0
  · have hd8 : decide (0 ≤ q8) = true := decide_eq_true hd
    have h := (if_pos hd).symm.trans h
    simp only [Option.some.injEq, Prod.mk.injEq] at h
    obtain ⟨rfl, rfl, rfl, rfl, rfl, rfl, rfl⟩ := h
    clear hC
    obtain ⟨z0, z1, z2, z3, z4, y0, y1, y2, y3, y4⟩ := val5 HF.out.box
    go_wp2_with fail
    have HF2 := Aside0.mk (HF.out.five (.int .i64 0) (.bool false) (.int .i64 0) (.int .u64 0) (.string ⟨#[]⟩))
    obtain ⟨x0, x1, x2, x3, x4, _, _, _, _, _⟩ := val5 HF2.out.box
    exact bodyPost_ret (v := .tuple #[.agg #[.int .i64 0, .bool false, .int .i64 0, .int .u64 0, .string ⟨#[]⟩], .int .i64 0, .bool false]) (by simp [results, Try.results15, go_sem, x0, x1, x2, x3, x4]) rfl ⟨rfl, HF2.out.b⟩
  · have hd8 : decide (0 ≤ q8) = false := decide_eq_false hd
    have h := (if_neg hd).symm.trans h
    simp only [Option.some.injEq, Prod.mk.injEq] at h
    obtain ⟨rfl, rfl, rfl, rfl, rfl, rfl, rfl⟩ := h
    clear hC
    obtain ⟨z0, z1, z2, z3, z4, y0, y1, y2, y3, y4⟩ := val5 HF.out.box
    obtain ⟨s0, s1, s2, s3, s4, t0, t1, t2, t3, t4⟩ := val5 HV.out
    go_wp2_with fail
    go_region
    go_wp2_with fail
    have HF2 := Aside0.mk (HF.out.five (.int .i64 q1) (.bool q2) (.int .i64 q3) (.int .u64 q4) (.string q5)).drew
    obtain ⟨x0, x1, x2, x3, x4, _, _, _, _, _⟩ := val5 HF2.out.box
    exact bodyPost_ret (v := .tuple #[.agg #[.int .i64 q1, .bool q2, .int .i64 q3, .int .u64 q4, .string q5], .int .i64 q6, .bool true]) (by simp [results, Try.results15, go_sem, x0, x1, x2, x3, x4]) rfl ⟨rfl, HF2.out.b⟩

end Go.Proofs.Ytokkjnfdfbpphaa.A
namespace Go.Proofs.Ytokkjnfdfbpphaa.A
open Go.RowKit Go.Proofs.YtokkjnfdfbpphaaW.PrintWords Go.Proofs.YtokkjnfdfbpphaaW.PrintLast Go.Proofs.YtokkjnfdfbpphaaW.PrintMore
attribute [local go_sem] max2_int min2_int max_two min_two max_three min_three max_four min_four   -- for this text's walks alone
set_option linter.unusedVariables false
set_option linter.unusedSimpArgs false

/-! ### value_nan: function 34 -/
def value_nan.f (a0 : Int) : Option (Bool) := some (decide ((Go.bits .and .u64 a0 9223372036854775807) > 9218868437227405312))
set_option maxHeartbeats 8000000 in
set_option maxRecDepth 100000 in
theorem value_nan.calls (a0 : Int) (r : Bool) (w : World) (h : value_nan.f a0 = some r) :
    Calls Try.prog 34 #[.int .u64 a0] w fun e w' => e = .returned (.bool r) ∧ Drawn0 w w' := by
  have H : (some (decide ((Go.bits .and .u64 a0 9223372036854775807) > 9218868437227405312))) = some r := h
  clear h
  obtain rfl := Option.some.inj H
  go_enter Try.func34, Try.ntmps34
  go_wp2
  go_ret
  exact ⟨by first | rfl | (simp; done) | (simp [*]; done), by repeat (first | exact Drawn0.refl _ | apply Drawn0.step)⟩

end Go.Proofs.Ytokkjnfdfbpphaa.A
namespace Go.Proofs.Ytokkjnfdfbpphaa.A
open Go.RowKit Go.Proofs.YtokkjnfdfbpphaaW.PrintWords Go.Proofs.YtokkjnfdfbpphaaW.PrintLast Go.Proofs.YtokkjnfdfbpphaaW.PrintMore
attribute [local go_sem] max2_int min2_int max_two min_two max_three min_three max_four min_four   -- for this text's walks alone
set_option linter.unusedVariables false
set_option linter.unusedSimpArgs false

/-! ### value_Clean: function 16 -/
def zero33 : Array Value := #[.int .i64 0, .bool false, .int .i64 0, .int .u64 0, .string ⟨#[]⟩]
/-- What Clean answers. -/
def cleanF (a0_0 : Int) (a0_1 : Bool) (a0_2 a0_3 : Int) (a0_4 : ByteArray) : Int × Bool × Int × Int × ByteArray :=
  (a0_0, (if a0_0 = 1 then a0_1 else false), (if a0_0 = 2 then a0_2 else 0), (if a0_0 = 3 then (if Go.bits .and .u64 a0_3 9223372036854775807 > 9218868437227405312 then 9221120237041090561 else a0_3) else 0), (if a0_0 = 4 then a0_4 else ⟨#[]⟩))
def value_Clean.f (a0_0 : Int) (a0_1 : Bool) (a0_2 : Int) (a0_3 : Int) (a0_4 : ByteArray) : Option (Int × Bool × Int × Int × ByteArray) := some (cleanF a0_0 a0_1 a0_2 a0_3 a0_4)
theorem blk_mid (w : World) (a : Obj) (cs : Array Value) (T : TypeId) (c : Obj) : (((w.alloc a).alloc (.cells cs T)).alloc c).heap[w.heap.size + 1]? = some (.cells cs T (0, 0)) := by
  have := blk_alloc (blk_new (w.alloc a) (.cells cs T)) c; simpa using this
theorem below_three (w : World) (a b c : Obj) : Below w.heap.size w (((w.alloc a).alloc b).alloc c) := below_alloc (below_alloc (below_alloc (Below.refl _ _) _) _) _
set_option maxRecDepth 100000 in
set_option maxHeartbeats 4000000 in
theorem value_Clean.calls (a0_0 : Int) (a0_1 : Bool) (a0_2 : Int) (a0_3 : Int) (a0_4 : ByteArray) (r1 : Int) (r2 : Bool) (r3 : Int) (r4 : Int) (r5 : ByteArray) (w : World) (h : value_Clean.f a0_0 a0_1 a0_2 a0_3 a0_4 = some (r1, r2, r3, r4, r5)) :
    Calls Try.prog 16 #[.agg #[.int .i64 a0_0, .bool a0_1, .int .i64 a0_2, .int .u64 a0_3, .string a0_4]] w fun e w' => e = .returned (.agg #[.int .i64 r1, .bool r2, .int .i64 r3, .int .u64 r4, .string r5]) ∧ Below w.heap.size w w' := by
  unfold value_Clean.f at h
  have hq := Option.some.inj h
  clear h
  unfold cleanF at hq
  simp only [Prod.mk.injEq] at hq
  obtain ⟨rfl, h1, h2, h3, h4⟩ := hq
  by_cases k3 : a0_0 = 3
  · subst k3
    rw [if_neg (by decide)] at h1 h2 h4
    rw [if_pos rfl] at h3
    subst h1 h2 h4
    by_cases hn : Go.bits .and .u64 a0_3 9223372036854775807 > 9218868437227405312
    · rw [if_pos hn] at h3
      have HN : Aside0 (value_nan.f a0_3 = some true) := ⟨by unfold value_nan.f; rw [decide_eq_true hn]⟩
      clear hn
      go_enter Try.func16, Try.ntmps16
      go_wp2_with fail
      refine (value_nan.calls _ _ _ HN.out).mono ?_
      rintro e w2 ⟨rfl, hq⟩
      obtain ⟨⟨n, rfl⟩⟩ := hq
      go_wp2_with fail
      have HY0 : Bx w _ (w.heap.size + 1) zero33 33 := ⟨(pw_below_drewN (below_three w (.cells #[.int .i64 3, .bool a0_1, .int .i64 a0_2, .int .u64 a0_3, .string a0_4] 33) (.cells zero33 33) (.cells #[.int .i64 3, .bool false, .int .i64 0, .int .u64 a0_3, .string ⟨#[]⟩] 33)) n), (blk_drewN (blk_mid _ _ _ _ _) n), (Nat.le_succ _)⟩
      have HY := HY0.far (g2 := w.heap.size + 1 + 1) (by omega) (by omega) 3 (.int .u64 r4)
      have HY2 := HY.five (.int .i64 3) (.bool false) (.int .i64 0) (.int .u64 r4) (.string ⟨#[]⟩)
      exact bodyPost_ret (results_cell_row rfl _ _ (w.heap.size + 1) 33 _ (0, 0) _ rfl HY2.box Try.underlying33 rfl (by kernel_rfl)) rfl ⟨rfl, HY2.b⟩
    · rw [if_neg hn] at h3
      obtain rfl := h3
      have HN : Aside0 (value_nan.f a0_3 = some false) := ⟨by unfold value_nan.f; rw [decide_eq_false hn]⟩
      clear hn
      go_enter Try.func16, Try.ntmps16
      go_wp2_with fail
      refine (value_nan.calls _ _ _ HN.out).mono ?_
      rintro e w2 ⟨rfl, hq⟩
      obtain ⟨⟨n, rfl⟩⟩ := hq
      go_wp2_with fail
      have HY : Bx w _ (w.heap.size + 1) zero33 33 := ⟨(pw_below_drewN (below_three w (.cells #[.int .i64 3, .bool a0_1, .int .i64 a0_2, .int .u64 a0_3, .string a0_4] 33) (.cells zero33 33) (.cells #[.int .i64 3, .bool false, .int .i64 0, .int .u64 a0_3, .string ⟨#[]⟩] 33)) n), (blk_drewN (blk_mid _ _ _ _ _) n), (Nat.le_succ _)⟩
      have HY2 := HY.five (.int .i64 3) (.bool false) (.int .i64 0) (.int .u64 a0_3) (.string ⟨#[]⟩)
      exact bodyPost_ret (results_cell_row rfl _ _ (w.heap.size + 1) 33 _ (0, 0) _ rfl HY2.box Try.underlying33 rfl (by kernel_rfl)) rfl ⟨rfl, HY2.b⟩
  · rw [if_neg k3] at h3
    subst h3
    have e3 : (a0_0 == 3) = false := by simpa using k3
    have HE := Aside0.mk (And.intro h1 (And.intro h2 h4))
    clear k3 h1 h2 h4
    go_enter Try.func16, Try.ntmps16
    go_wp2_with fail
    all_goals
      refine bodyPost_ret (results_cell_row rfl _ _ (w.heap.size + 1) 33 _ (0, 0) _ rfl (blk_mid _ _ _ _ _) Try.underlying33 rfl (by kernel_rfl)) rfl ⟨?_, below_three _ _ _ _⟩
      obtain ⟨h1, h2, h4⟩ := HE.out
      simp_all

end Go.Proofs.Ytokkjnfdfbpphaa.A
namespace Go.Proofs.Ytokkjnfdfbpphaa.A
open Go.RowKit Go.Proofs.YtokkjnfdfbpphaaW.PrintWords Go.Proofs.YtokkjnfdfbpphaaW.PrintLast Go.Proofs.YtokkjnfdfbpphaaW.PrintMore
attribute [local go_sem] max2_int min2_int max_two min_two max_three min_three max_four min_four   -- for this text's walks alone
set_option linter.unusedVariables false
set_option linter.unusedSimpArgs false

set_option maxRecDepth 100000 in
set_option maxHeartbeats 4000000 in
theorem values_walk (k : Nat) (x0 : Int) (x1 : Bool) (x2 x3 : Int) (x4 a1 t b s : ByteArray) (l : List S28) (at_ er : Int) (w : World)
    (ht : chartularylaw23_cut.f x4 = some t) (hb : chartularylaw23_cut.f a1 = some b) (hs : say_Value.f k x0 x1 x2 x3 t = some s) (hs2 : chartularyref23_Value.f k x0 x1 x2 x3 t = some s)
    (hsz : s.size ≤ 100000) (hbz : b.size ≤ 500)
    (hl : say_Tokens.f (s ++ (⟨#[32, 59]⟩ : ByteArray) ++ b) = some (l, at_, er)) (haw : chartularylaw23_awake.f k = some true)
    (hgood : er = 0 → 0 ≤ x0 → x0 ≤ 4 → ∃ (v0 : Int) (v1 : Bool) (v2 v3 v3' : Int) (v4 : ByteArray) (m : List S28), say_TakeValue.f k l = some (v0, v1, v2, v3, v4, (m.length : Int), true) ∧ say_Tokens.f s = some (m, 0, 0) ∧
      value_Clean.f x0 x1 x2 x3 t = some (v0, v1, v2, v3', v4) ∧ (x0 = 3 → v3 = x3) ∧ (x0 ≠ 3 → v3' = v3)) :
    Calls Try.prog 4 #[.agg #[.int .i64 x0, .bool x1, .int .i64 x2, .int .u64 x3, .string x4], .string a1] w fun e w' => e = .returned (.bool true) ∧ Below w.heap.size w w' := by
  have HT := Aside0.mk ht
  have HU := Aside0.mk hb
  have HS := Aside0.mk hs
  have HS2 := Aside0.mk hs2
  have HL := Aside0.mk hl
  have HA := Aside0.mk haw
  have HG := Aside0.mk hgood
  clear ht hb hs hs2 hl haw hgood
  have HX : Aside0 (Bx w (w.alloc (.cells #[.int .i64 x0, .bool x1, .int .i64 x2, .int .u64 x3, .string x4] 33)) w.heap.size #[.int .i64 x0, .bool x1, .int .i64 x2, .int .u64 x3, .string x4] 33) := ⟨Bx.start _ _ _⟩
  have c1 : s.size ≤ 140737488351232 := by omega
  have c2 : (s ++ (⟨#[32, 59]⟩ : ByteArray)).size ≤ 140737488351232 := by rw [ByteArray.size_append]; have : (⟨#[32, 59]⟩ : ByteArray).size = 2 := rfl; omega
  have c3 : b.size ≤ 140737488351232 := by omega
  clear hsz hbz
  obtain ⟨z0, z1, z2, z3, z4, y0, y1, y2, y3, y4⟩ := val5 HX.out.box
  go_enter Try.func4, Try.ntmps4
  go_wp2_with fail
  refine (chartularylaw23_cut.calls _ _ _ HT.out).mono ?_
  rintro e w2 ⟨rfl, hq⟩
  obtain ⟨⟨n, rfl⟩⟩ := hq
  replace HX := Aside0.mk (HX.out.drewN n)
  clear z0 z1 z2 z3 z4 y0 y1 y2 y3 y4
  revert HX
  generalize World.drewN _ n = W1
  intro HX
  obtain ⟨z0, z1, z2, z3, z4, y0, y1, y2, y3, y4⟩ := val5 HX.out.box
  go_wp2_with fail
  replace HX := Aside0.mk (HX.out.put 4 (.string t) rfl)
  clear z0 z1 z2 z3 z4 y0 y1 y2 y3 y4
  refine (chartularylaw23_cut.calls _ _ _ HU.out).mono ?_
  rintro e w2 ⟨rfl, hq⟩
  obtain ⟨⟨n2, rfl⟩⟩ := hq
  replace HX := Aside0.mk (HX.out.drewN n2)
  revert HX
  generalize World.drewN _ n2 = W2
  intro HX
  obtain ⟨z0, z1, z2, z3, z4, y0, y1, y2, y3, y4⟩ := val5 HX.out.box
  go_wp2_with fail
  refine (say_Value.calls k _ _ _ _ _ _ _ HS.out).mono ?_
  rintro e w3 ⟨rfl, hb⟩
  replace HX := Aside0.mk (HX.out.below hb)
  clear z0 z1 z2 z3 z4 y0 y1 y2 y3 y4 hb
  obtain ⟨z0, z1, z2, z3, z4, y0, y1, y2, y3, y4⟩ := val5 HX.out.box
  go_wp2_with fail
  refine (chartularyref23_Value.calls k _ _ _ _ _ _ _ HS2.out).mono ?_
  rintro e w4 ⟨rfl, hb⟩
  replace HX := Aside0.mk (HX.out.below hb)
  clear z0 z1 z2 z3 z4 y0 y1 y2 y3 y4 hb
  have hse : (s.toList != s.toList) = false := by simp
  go_wp2_with fail
  refine (say_Tokens.calls _ _ _ _ _ HL.out).mono ?_
  rintro e w5 ⟨v, rfl, hr, hb⟩
  replace HX := Aside0.mk (HX.out.below hb)
  have HR := Aside0.mk hr
  obtain ⟨Av, cv, rfl⟩ := Kd.R_slice hr
  clear hr hb hse c2 c3
  obtain ⟨z0, z1, z2, z3, z4, y0, y1, y2, y3, y4⟩ := val5 HX.out.box
  by_cases hg : er = 0 ∧ 0 ≤ x0 ∧ x0 ≤ 4
  · obtain ⟨rfl, g0, g4⟩ := hg
    obtain ⟨v0, v1, v2, v3, v3', v4, m, hv, hm, hcl, e3, e4⟩ := HG.out rfl g0 g4
    have HV := Aside0.mk hv
    have HM := Aside0.mk hm
    have HC := Aside0.mk hcl
    have HE := Aside0.mk (And.intro e3 e4)
    clear hv hm hcl e3 e4 HG HL
    have d1 : decide (x0 < 0) = false := by simp; omega
    have d2 : decide (4 < x0) = false := by simp; omega
    clear g0 g4
    go_wp2_with fail
    refine (say_TakeValue.calls k _ _ l _ _ _ _ _ _ _ _ (Kd.R_reads' HR.out).2.2 (Kd.R_reads' HR.out).2.1 HV.out).mono ?_
    rintro e w6 ⟨rfl, hb⟩
    replace HX := Aside0.mk (HX.out.below hb)
    clear z0 z1 z2 z3 z4 y0 y1 y2 y3 y4 hb HR
    have HY := Aside0.mk (Bx.next HX.out.b #[.int .i64 v0, .bool v1, .int .i64 v2, .int .u64 v3, .string v4] 33)
    have HNE : Aside0 (w.heap.size ≠ w6.heap.size) := ⟨by have := blk_lt HX.out.box; omega⟩
    replace HX := Aside0.mk (HX.out.alloc (.cells #[.int .i64 v0, .bool v1, .int .i64 v2, .int .u64 v3, .string v4] 33))
    go_wp2_with fail
    generalize w6.heap.size = gy at HY HNE ⊢
    generalize World.alloc _ _ = W7 at HX HY ⊢
    refine (say_Tokens.calls _ _ _ _ _ HM.out).mono ?_
    rintro e w8 ⟨v, rfl, hr, hb⟩
    obtain ⟨Am, cm, rfl⟩ := Kd.R_slice hr
    replace HX := Aside0.mk (HX.out.below hb)
    replace HY := Aside0.mk (HY.out.below hb)
    clear hb hr
    obtain ⟨z0, z1, z2, z3, z4, y0, y1, y2, y3, y4⟩ := val5 HX.out.box
    go_wp2_with fail
    refine (value_Clean.calls _ _ _ _ _ _ _ _ _ _ _ HC.out).mono ?_
    rintro e w9 ⟨rfl, hb⟩
    replace HX := Aside0.mk (HX.out.below hb)
    replace HY := Aside0.mk (HY.out.below hb)
    clear z0 z1 z2 z3 z4 y0 y1 y2 y3 y4 hb
    have HZ := Aside0.mk (Bx.next HX.out.b #[.int .i64 v0, .bool v1, .int .i64 v2, .int .u64 v3', .string v4] 33)
    have HN2 : Aside0 (w.heap.size ≠ w9.heap.size ∧ gy ≠ w9.heap.size) := ⟨by have := blk_lt HX.out.box; have := blk_lt HY.out.box; omega⟩
    have HX0 := HX
    have HY0 := HY
    replace HX := Aside0.mk (HX.out.alloc (.cells #[.int .i64 v0, .bool v1, .int .i64 v2, .int .u64 v3', .string v4] 33))
    replace HY := Aside0.mk (HY.out.alloc (.cells #[.int .i64 v0, .bool v1, .int .i64 v2, .int .u64 v3', .string v4] 33))
    obtain ⟨z0, z1, z2, z3, z4, y0, y1, y2, y3, y4⟩ := val5 HX.out.box
    obtain ⟨p0, p1, p2, p3, p4, q0, q1, q2, q3, q4⟩ := val5 HY.out.box
    by_cases k3 : x0 = 3
    · subst k3
      have hvv := HE.out.1 rfl
      subst hvv
      replace HX0 := Aside0.mk (HX0.out.alloc (.cells #[.int .i64 v0, .bool v1, .int .i64 v2, .int .u64 v3, .string v4] 33))
      replace HY0 := Aside0.mk (HY0.out.alloc (.cells #[.int .i64 v0, .bool v1, .int .i64 v2, .int .u64 v3, .string v4] 33))
      obtain ⟨b0, b1, b2, b3, b4, c0, c1, c2, c3, c4⟩ := val5 HY0.out.box
      go_wp2_with fail
      refine (chartularylaw23_awake.calls k _ _ HA.out).mono ?_
      rintro e w10 ⟨rfl, hb⟩
      replace HX := Aside0.mk (HX0.out.below hb)
      go_wp2_with fail
      go_ret
      exact ⟨rfl, HX.out.b⟩
    · have e3 : (x0 == 3) = false := by simpa using k3
      have hvv := HE.out.2 k3
      clear k3
      subst hvv
      go_wp2_with fail
      refine (chartularylaw23_awake.calls k _ _ HA.out).mono ?_
      rintro e w10 ⟨rfl, hb⟩
      replace HX := Aside0.mk (HX.out.below hb)
      go_wp2_with fail
      go_ret
      exact ⟨rfl, HX.out.b⟩
  · clear HG
    by_cases he : er = 0
    · subst he
      by_cases h0 : x0 < 0
      · have d1 : decide (x0 < 0) = true := by simpa using h0
        clear h0 hg
        go_wp2_with fail
        refine (chartularylaw23_awake.calls k _ _ HA.out).mono ?_
        rintro e w10 ⟨rfl, hb⟩
        replace HX := Aside0.mk (HX.out.below hb)
        go_wp2_with fail
        go_ret
        exact ⟨rfl, HX.out.b⟩
      · have d1 : decide (x0 < 0) = false := by simpa using h0
        have d2 : decide (4 < x0) = true := by simp; omega
        clear h0 hg
        go_wp2_with fail
        refine (chartularylaw23_awake.calls k _ _ HA.out).mono ?_
        rintro e w10 ⟨rfl, hb⟩
        replace HX := Aside0.mk (HX.out.below hb)
        go_wp2_with fail
        go_ret
        exact ⟨rfl, HX.out.b⟩
    · have d1 : (er != 0) = true := by simpa using he
      clear he hg
      go_wp2_with fail
      refine (chartularylaw23_awake.calls k _ _ HA.out).mono ?_
      rintro e w10 ⟨rfl, hb⟩
      replace HX := Aside0.mk (HX.out.below hb)
      go_wp2_with fail
      go_ret
      exact ⟨rfl, HX.out.b⟩

end Go.Proofs.Ytokkjnfdfbpphaa.A
namespace Go.Proofs.Ytokkjnfdfbpphaa.A
open Go.RowKit Go.Proofs.YtokkjnfdfbpphaaW.PrintWords Go.Proofs.YtokkjnfdfbpphaaW.PrintLast Go.Proofs.YtokkjnfdfbpphaaW.PrintMore
attribute [local go_sem] max2_int min2_int max_two min_two max_three min_three max_four min_four   -- for this text's walks alone
set_option linter.unusedVariables false
set_option linter.unusedSimpArgs false

theorem lexL_count : ∀ (n : Nat) (l : List UInt8) (p : Nat) (qs : List S28), lexL n l p = .ok qs → qs.length ≤ l.length
  | 0, l, p, qs, h => by simp [lexL] at h; subst h; simp
  | n + 1, l, p, qs, h => by
    rw [lexL] at h
    split at h
    · simp at h; subst h; simp
    · cases ht : tokL (l.drop (blankLen false l)) with
      | none => rw [ht] at h; simp at h
      | some q =>
        obtain ⟨k, t, j⟩ := q
        have hj := tokL_le _ k t j ht
        rw [List.length_drop] at hj
        rw [ht] at h
        dsimp only at h
        cases hr : lexL n (l.drop (blankLen false l + j)) (p + blankLen false l + j) with
        | error e => rw [hr] at h; simp [Except.map] at h
        | ok r =>
          rw [hr] at h
          simp only [Except.map, Except.ok.injEq] at h
          subst h
          have := lexL_count n _ _ r hr
          rw [List.length_drop] at this
          simp; omega
theorem tokens_some (s : ByteArray) (hs : s.size ≤ 65536) : (∃ l, lx s.data.toList 0 = .ok l ∧ say_Tokens.f s = some (l, 0, 0)) ∨ ∃ p, lx s.data.toList 0 = .error p ∧ say_Tokens.f s = some ([], (p : Int), 4) := by
  have e : lexed s = lx s.data.toList 0 := by rw [lexed_list]; exact lexL_lx _ _ _ (by simp)
  unfold say_Tokens.f
  rw [if_pos hs, e]
  cases h : lx s.data.toList 0 with
  | ok l => exact .inl ⟨l, rfl, rfl⟩
  | error p => exact .inr ⟨p, rfl, rfl⟩
theorem ba_length (s : ByteArray) : s.data.toList.length = s.size := by simp
theorem valText_length (x : S33) (hx : Okv x) : (valText x).length ≤ 4 * x.f4.size + 100 := by
  unfold valText
  have h1 := intText_length x.f2 hx.i0 hx.i1
  have h2 := floatText_length x.f3.toNat
  have h3 := quoted_le x.f4.data.toList
  have h4 : x.f4.data.toList.length = x.f4.size := by simp
  repeat' split
  all_goals first | omega | (simp only [List.length_cons, List.length_nil]; omega)
theorem Stands.self {l qs : List S28} {rest : List S28} {ts : Tks} (hq : qs.map tkOf = ts) (hl : l = qs ++ rest) : Stands l 0 (ts ++ rest.map tkOf) := by
  subst hl; subst hq
  exact ⟨[], by simp⟩
set_option maxRecDepth 100000 in
theorem values_all (x0 : Int) (x1 : Bool) (x2 x3 : Int) (x4 a1 : ByteArray) (w : World) (h1 : -9223372036854775808 ≤ x2) (h2 : x2 < 9223372036854775808) (h3 : 0 ≤ x3) (h4 : x3 < 18446744073709551616) :
    Calls Try.prog 4 #[.agg #[.int .i64 x0, .bool x1, .int .i64 x2, .int .u64 x3, .string x4], .string a1] w fun e w' => e = .returned (.bool true) ∧ Below w.heap.size w w' := by
  obtain ⟨t, ht, hts⟩ := cut_some x4
  obtain ⟨b, hb, hbs⟩ := cut_some a1
  have hX : Okv ⟨x0, x1, x2, x3, t⟩ := ⟨h1, h2, h3, h4, by show t.size ≤ _; omega⟩
  have hvl := valText_length _ hX
  have hss : (⟨(valText ⟨x0, x1, x2, x3, t⟩).toArray⟩ : ByteArray).size = (valText ⟨x0, x1, x2, x3, t⟩).length := by show Array.size _ = _; simp
  have hvl2 : (valText ⟨x0, x1, x2, x3, t⟩).length ≤ 2100 := by simp only at hvl; omega
  have hsz : ((⟨(valText ⟨x0, x1, x2, x3, t⟩).toArray⟩ : ByteArray) ++ (⟨#[32, 59]⟩ : ByteArray) ++ b).size ≤ 65536 := by
    rw [ByteArray.size_append, ByteArray.size_append, hss]
    have : (⟨#[32, 59]⟩ : ByteArray).size = 2 := rfl
    omega
  have hlist : ((⟨(valText ⟨x0, x1, x2, x3, t⟩).toArray⟩ : ByteArray) ++ (⟨#[32, 59]⟩ : ByteArray) ++ b).data.toList = (valText ⟨x0, x1, x2, x3, t⟩ ++ [32]) ++ (59 :: b.data.toList) := by simp
  have haw : chartularylaw23_awake.f (50 + 0) = some true := chartularylaw23_awake.mono 49 _ (chartularylaw23_awake.mono 48 _ (chartularylaw23_awake.mono 47 _ (chartularylaw23_awake.mono 46 _ (chartularylaw23_awake.mono 45 _ (chartularylaw23_awake.mono 44 _ (chartularylaw23_awake.mono 43 _ (chartularylaw23_awake.mono 42 _ (chartularylaw23_awake.mono 41 _ (chartularylaw23_awake.mono 40 _ awake_true)))))))))
  rcases tokens_some _ hsz with ⟨l, hlx, hl⟩ | ⟨p, hlx, hl⟩
  · refine values_walk 50 x0 x1 x2 x3 x4 a1 t b _ l 0 0 w ht hb (say_Value_text _ 50 hX (by decide)) (ref_Value_text _ 50 hX (by decide)) (by omega) hbs hl haw (fun _ g0 g4 => ?_)
    obtain ⟨qs, hqs, eq⟩ := Lexes.sep (Lexes.val ⟨x0, x1, x2, x3, t⟩) 32 (by decide) (59 :: b.data.toList) 0 (.inl rfl)
    rw [hlist, eq] at hlx
    have hcount : l.length ≤ 65536 := by
      have h := hlx
      rw [← eq] at h
      have := lexL_count _ _ _ _ h
      rw [← hlist] at this
      rw [ba_length] at this
      omega
    cases hr : lx (59 :: b.data.toList) (0 + (valText ⟨x0, x1, x2, x3, t⟩ ++ [32]).length) with
    | error e => rw [hr] at hlx; simp [Except.map] at hlx
    | ok rest =>
      rw [hr] at hlx
      simp only [Except.map, Except.ok.injEq] at hlx
      have hst := Stands.self hqs hlx.symm
      have hv := value_ok 0 ⟨x0, x1, x2, x3, t⟩ 50 (by decide) hX hst (by omega) g0 g4
      obtain ⟨m, hm, hmt⟩ := tokens_ok (Lexes.val ⟨x0, x1, x2, x3, t⟩) (by omega)
      have hml : m.length = (valToks ⟨x0, x1, x2, x3, t⟩).length := by rw [← hm]; simp
      refine ⟨x0, (if x0 = 1 then x1 else false), (if x0 = 2 then x2 else 0), (if x0 = 3 then x3 else 0), _, (if x0 = 4 then t else ⟨#[]⟩), m, ?_, hmt, rfl, fun h => if_pos h, fun h => by simp [h]⟩
      unfold say_TakeValue.f
      rw [show say_parser_value.f 50 l 0 0 (-1) = _ from hv]
      simp only [Option.bind_some]
      rw [if_neg (by decide), hml]
      simp [saidV]
  · exact values_walk 50 x0 x1 x2 x3 x4 a1 t b _ [] p 4 w ht hb (say_Value_text _ 50 hX (by decide)) (ref_Value_text _ 50 hX (by decide)) (by omega) hbs hl haw (fun h => absurd h (by decide))

end Go.Proofs.Ytokkjnfdfbpphaa.A
