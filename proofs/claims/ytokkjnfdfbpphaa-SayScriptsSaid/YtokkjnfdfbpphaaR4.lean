/- The functions that this claim's statement reaches, each with what it computes and the proof that it does. -/
import Derived.Test.YtokkjnfdfbpphaaR3
namespace Go.Proofs.Ytokkjnfdfbpphaa.A
open Go.RowKit Go.Proofs.YtokkjnfdfbpphaaW.PrintWords Go.Proofs.YtokkjnfdfbpphaaW.PrintLast Go.Proofs.YtokkjnfdfbpphaaW.PrintMore
attribute [local go_sem] max2_int min2_int max_two min_two max_three min_three max_four min_four   -- for this text's walks alone
set_option linter.unusedVariables false
set_option linter.unusedSimpArgs false

theorem len_joinTail (P : List (List UInt8 × Tks)) (h : ∀ p ∈ P, p.1.length ≤ cw p.2) : (Lib.joinTail [44, 32] (P.map (·.1))).length ≤ cw (commasFrom false (P.map (·.2))) := by
  induction P with
  | nil => simp [Lib.joinTail]
  | cons p P ih =>
    have h1 := h p (by simp)
    have h2 := ih (fun q hq => h q (by simp [hq]))
    have e1 : Lib.joinTail [44, 32] ((p :: P).map (·.1)) = [44, 32] ++ p.1 ++ Lib.joinTail [44, 32] (P.map (·.1)) := by simp [Lib.joinTail]
    have e2 : commasFrom false ((p :: P).map (·.2)) = [(3, [44])] ++ p.2 ++ commasFrom false (P.map (·.2)) := by simp [commasFrom]
    rw [e1, e2, cw_append, cw_append, List.length_append, List.length_append]
    have : cw [((3 : Int), ([44] : List UInt8))] = 23 := by decide
    simp only [List.length_cons, List.length_nil]; omega
theorem len_join (P : List (List UInt8 × Tks)) (h : ∀ p ∈ P, p.1.length ≤ cw p.2) : (Lib.join (P.map (·.1)) [44, 32]).length ≤ cw (commasFrom true (P.map (·.2))) := by
  cases P with
  | nil => simp [Lib.join_nil]
  | cons p P =>
    have h1 := h p (by simp)
    have h2 := len_joinTail P (fun q hq => h q (by simp [hq]))
    rw [List.map_cons, Lib.join_cons, List.length_append]
    have e2 : commasFrom true ((p :: P).map (·.2)) = p.2 ++ commasFrom false (P.map (·.2)) := by simp [commasFrom]
    rw [e2, cw_append]; omega
theorem cw_cons (a : Int × List UInt8) (ts : Tks) : cw (a :: ts) = cost a + 22 + cw ts := by simp [cw]
theorem cost_two (t : List UInt8) : cost (2, t) = (quoted t).length := rfl
theorem cost_other (k : Int) (t : List UInt8) (h : k ≠ 2) : cost (k, t) = t.length := by unfold cost; rw [if_neg h]
theorem val_cw (x : S33) (h0 : 0 ≤ x.f0) (h4 : x.f0 ≤ 4) : (valText x).length ≤ cw (valToks x) := by
  have hf := floatText_length x.f3.toNat
  have hc : x.f0 = 0 ∨ x.f0 = 1 ∨ x.f0 = 2 ∨ x.f0 = 3 ∨ x.f0 = 4 := by omega
  unfold valText valToks
  rcases hc with h | h | h | h | h
  · rw [if_pos h, if_pos h]; decide
  · rw [h]; cases x.f1 <;> simp [cw, cost]
  · rw [if_neg (by omega), if_neg (by omega), if_pos h, if_neg (by omega), if_neg (by omega), if_pos h, cw_cons, cost_other _ _ (by decide)]; omega
  · rw [if_neg (by omega), if_neg (by omega), if_neg (by omega), if_pos h, if_neg (by omega), if_neg (by omega), if_neg (by omega), if_pos h]
    simp only [cw_cons]; omega
  · rw [if_neg (by omega), if_neg (by omega), if_neg (by omega), if_neg (by omega), if_pos h, if_neg (by omega), if_neg (by omega), if_neg (by omega), if_neg (by omega), if_pos h, cw_cons, cost_two]; omega
theorem field_cw (f : S87) (hf : Goodf f) : (fieldText f).length ≤ cw (fieldToks f) := by
  have := val_cw f.f1 hf.v0 hf.v4
  unfold fieldText fieldToks
  rw [cw_cons, cw_cons, cost_two, cost_other _ _ (by decide)]
  simp only [List.length_append, List.length_cons, List.length_nil]; omega
theorem names_cw (l : List ByteArray) : (namesText l).length ≤ cw (namesToks l) := by
  have := len_join (l.map fun s => (quoted s.data.toList, [((2 : Int), s.data.toList)])) (by
    intro p hp
    obtain ⟨s, _, rfl⟩ := List.mem_map.1 hp
    show (quoted s.data.toList).length ≤ _
    rw [cw_cons, cost_two]; omega)
  rw [List.map_map, List.map_map] at this
  unfold namesText namesToks
  rw [cw_cons, cw_append, cw_cons, cost_other _ _ (by decide), cost_other _ _ (by decide)]
  simp only [List.length_append, List.length_cons, List.length_nil]
  have h2 : (Lib.join (l.map fun s => quoted s.data.toList) [44, 32]).length ≤ cw (commasFrom true (l.map fun s => [((2 : Int), s.data.toList)])) := this
  omega
theorem paper_cw (p : S42) (h : ∀ f ∈ p.f2, Goodf f) : (paperText p).length ≤ cw (paperToks p) := by
  have := len_join (p.f2.map fun f => (fieldText f, fieldToks f)) (by
    intro q hq
    obtain ⟨f, hf, rfl⟩ := List.mem_map.1 hq
    exact field_cw f (h f hf))
  rw [List.map_map, List.map_map] at this
  have h2 : (Lib.join (p.f2.map fieldText) [44, 32]).length ≤ cw (commasFrom true (p.f2.map fieldToks)) := this
  unfold paperText paperToks
  rw [cw_cons, cw_cons, cw_cons, cw_append, cw_cons, cost_two, cost_other _ _ (by decide), cost_other _ _ (by decide), cost_other _ _ (by decide)]
  simp only [List.length_append, List.length_cons, List.length_nil]
  omega
theorem names_snd {s0 : List S28} (W : Wft s0) : ∀ (k : Nat) (acc r : List ByteArray) (n e b n' e' b' : Int), 0 ≤ e → acc.length ≤ 9000000000000 → say_parser_names.l0 k acc (acc.length : Int) s0 n e b = some (r, n', e', b') →
    Snd s0 n e b n' e' b' (fun ts => ∃ l, r = acc ++ l ∧ (l ≠ [] → acc.length + l.length ≤ 100) ∧ (∀ s ∈ l, s.size ≤ 1000000) ∧ ts = commasFrom acc.isEmpty (l.map fun s => [(2, s.data.toList)]) ++ [(3, [93])]) := by
  intro k
  induction k using Nat.strongRecOn with
  | ind k ih =>
    intro acc r n e b n' e' b' he hacc h
    have stop : ∀ (k : Nat) (n1 : Int), say_parser_names.j1 k acc (acc.length : Int) false s0 n1 e b = some (r, n', e', b') → Snd s0 n1 e b n' e' b' (fun ts => ∃ l, r = acc ++ l ∧ (l ≠ [] → acc.length + l.length ≤ 100) ∧ (∀ s ∈ l, s.size ≤ 1000000) ∧ ts = commasFrom acc.isEmpty (l.map fun s => [(2, s.data.toList)]) ++ [(3, [93])]) := by
      intro k n1 h
      cases k with
      | zero => simp [say_parser_names.j1] at h
      | succ k =>
        rw [say_parser_names.j1, if_neg (by decide)] at h
        replace h := Option.bind_eq_some_iff.mp h
        obtain ⟨⟨m1, m2, m3⟩, hm, h⟩ := h
        simp only [Option.some.injEq, Prod.mk.injEq] at h
        obtain ⟨rfl, rfl, rfl, rfl⟩ := h
        refine Snd.imp (mark_snd (m := [93]) W he hm) fun ts hts => ⟨[], by simp, fun h => absurd rfl h, by simp, by rw [hts]; simp [commasFrom]⟩
    cases k with
    | zero => simp [say_parser_names.l0] at h
    | succ k =>
      rw [say_parser_names.l0] at h
      split at h
      · replace h := Option.bind_eq_some_iff.mp h
        obtain ⟨⟨pk, p1, p2, p3⟩, hp, h⟩ := h
        obtain ⟨rfl, rfl, rfl, _⟩ := peek_snd (m := [93]) hp
        cases pk with
        | true => exact stop k _ h
        | false =>
          cases k with
          | zero => simp [say_parser_names.j1] at h
          | succ k =>
            dsimp only at h
            rw [say_parser_names.j1, if_pos (by decide)] at h
            have more : ∀ (n1 e1 b1 : Int), 0 ≤ e1 → say_parser_names.j2 k acc (acc.length : Int) s0 n1 e1 b1 = some (r, n', e', b') →
                Snd s0 n1 e1 b1 n' e' b' (fun ts => ∃ s l, r = acc ++ s :: l ∧ acc.length + (s :: l).length ≤ 100 ∧ (∀ z ∈ s :: l, z.size ≤ 1000000) ∧ ts = (2, s.data.toList) :: (commasFrom false (l.map fun s => [(2, s.data.toList)]) ++ [(3, [93])])) := by
              intro n1 e1 b1 he1 h
              cases k with
              | zero => simp [say_parser_names.j2] at h
              | succ k =>
                rw [say_parser_names.j2] at h
                have rest : ∀ (t : ByteArray) (m1 m2 m3 : Int), 0 ≤ m2 → (if acc.length < 8796093022208 then say_parser_names.l0 k (acc ++ [t]) (wrap64 ((acc.length : Int) + 1)) s0 m1 m2 m3 else none) = some (r, n', e', b') →
                    Snd s0 m1 m2 m3 n' e' b' (fun ts => ∃ l, r = acc ++ t :: l ∧ (l ≠ [] → acc.length + 1 + l.length ≤ 100) ∧ (∀ z ∈ l, z.size ≤ 1000000) ∧ ts = commasFrom false (l.map fun s => [(2, s.data.toList)]) ++ [(3, [93])]) := by
                  intro t m1 m2 m3 hm2 h
                  split at h
                  · rename_i hlt
                    have hw : wrap64 ((acc.length : Int) + 1) = ((acc ++ [t]).length : Int) := by unfold wrap64; simp; omega
                    rw [hw] at h
                    refine Snd.imp (ih k (by omega) (acc ++ [t]) r m1 m2 m3 n' e' b' hm2 (by simp; omega) h) fun ts hq => ?_
                    obtain ⟨l, rfl, h1, h2, h3⟩ := hq
                    refine ⟨l, by simp, fun hl => by have := h1 hl; simp at this; omega, h2, ?_⟩
                    rw [h3]
                    have : (acc ++ [t]).isEmpty = false := by cases acc <;> rfl
                    rw [this]
                  · simp at h
                split at h
                · replace h := Option.bind_eq_some_iff.mp h
                  obtain ⟨⟨q1, q2, q3⟩, hq, h⟩ := h
                  dsimp only at h
                  replace h := Option.bind_eq_some_iff.mp h
                  obtain ⟨⟨t, t1, t2, t3⟩, ht, h⟩ := h
                  dsimp only at h ht
                  obtain ⟨rfl, rfl, hq3⟩ := fail_snd W he1 hq
                  have hts := take_snd W he1 ht
                  have hr := rest t t1 t2 t3 (by rw [hts.1]; exact he1) h
                  exact Snd.bind (Q1 := fun _ => False) ⟨rfl, fun hb => absurd hb (by omega)⟩ (Snd.bind (Q := fun _ => True) hts hr (fun _ _ _ _ => trivial)) (fun _ _ h => h.elim)
                · rename_i hc
                  replace h := Option.bind_eq_some_iff.mp h
                  obtain ⟨⟨t, t1, t2, t3⟩, ht, h⟩ := h
                  dsimp only at h
                  have hts := take_snd W he1 ht
                  have hr := rest t t1 t2 t3 (by rw [hts.1]; exact he1) h
                  refine Snd.bind hts hr ?_
                  rintro a c ⟨rfl, _, hsz⟩ ⟨l, rfl, h1, h2, rfl⟩
                  refine ⟨t, l, rfl, ?_, ?_, rfl⟩
                  · cases l with
                    | nil => simp; omega
                    | cons x l => have := h1 (by simp); simp at this ⊢; omega
                  · intro z hz
                    rcases List.mem_cons.1 hz with rfl | hz
                    · exact hsz
                    · exact h2 z hz
            split at h
            · rename_i hpos
              replace h := Option.bind_eq_some_iff.mp h
              obtain ⟨⟨m1, m2, m3⟩, hm, h⟩ := h
              dsimp only at h
              have hms := mark_snd (m := [44]) W he hm
              refine Snd.bind hms (more m1 m2 m3 (by rw [hms.1]; exact he) h) ?_
              rintro a c rfl ⟨s, l, hr, h1, h2, rfl⟩
              have : acc.isEmpty = false := by cases acc with
                | nil => simp at hpos
                | cons => rfl
              exact ⟨s :: l, hr, fun _ => h1, h2, by rw [this]; simp [commasFrom]⟩
            · rename_i hpos
              refine Snd.imp (more _ _ _ he h) ?_
              rintro c ⟨s, l, hr, h1, h2, rfl⟩
              have : acc.isEmpty = true := by cases acc with
                | nil => rfl
                | cons => simp at hpos
              exact ⟨s :: l, hr, fun _ => h1, h2, by rw [this]; simp [commasFrom]⟩
      · exact stop k _ h
theorem namesf_snd {s0 : List S28} (W : Wft s0) {k : Nat} {r : List ByteArray} {n e b n' e' b' : Int} (he : 0 ≤ e) (h : say_parser_names.f k s0 n e b = some (r, n', e', b')) :
    Snd s0 n e b n' e' b' (fun ts => ts = namesToks r ∧ r.length ≤ 100 ∧ ∀ s ∈ r, s.size ≤ 1000000) := by
  unfold say_parser_names.f at h
  replace h := Option.bind_eq_some_iff.mp h
  obtain ⟨⟨m1, m2, m3⟩, hm, h⟩ := h
  dsimp only at h
  have hms := mark_snd (m := [91]) W he hm
  refine Snd.bind hms (names_snd W k [] r m1 m2 m3 n' e' b' (by rw [hms.1]; exact he) (by simp) h) ?_
  rintro a c rfl ⟨l, hr, h1, h2, rfl⟩
  rw [List.nil_append] at hr
  subst hr
  refine ⟨rfl, ?_, h2⟩
  by_cases hl : r = []
  · rw [hl]; simp
  · have := h1 hl; simpa using this
theorem field_snd {s0 : List S28} (W : Wft s0) {k : Nat} {f : S87} {n e b n' e' b' : Int} (he : 0 ≤ e) (h : fieldP k s0 n e b = some (f, n', e', b')) :
    Snd s0 n e b n' e' b' (fun ts => ts = fieldToks f ∧ f.f0.size ≤ 1000000 ∧ Goodf f) := by
  unfold fieldP at h
  replace h := Option.bind_eq_some_iff.mp h
  obtain ⟨⟨t, t1, t2, t3⟩, ht, h⟩ := h
  replace h := Option.bind_eq_some_iff.mp h
  obtain ⟨⟨m1, m2, m3⟩, hm, h⟩ := h
  dsimp only at hm
  replace h := Option.bind_eq_some_iff.mp h
  obtain ⟨⟨v0, v1, v2, v3, v4, v5, v6, v7⟩, hv, h⟩ := h
  dsimp only at hv
  simp only [Option.some.injEq, Prod.mk.injEq] at h
  obtain ⟨rfl, rfl, rfl, rfl⟩ := h
  have hts := take_snd W he ht
  have hms := mark_snd (m := [61]) W (by rw [hts.1]; exact he) hm
  have hvs := value_snd W (by rw [hms.1, hts.1]; exact he) hv
  refine Snd.bind hts (Snd.bind (Q := fun ts => ts = (3, [61]) :: valToks ⟨v0, v1, v2, v3, v4⟩ ∧ Goodf ⟨⟨#[]⟩, ⟨v0, v1, v2, v3, v4⟩⟩) hms hvs ?_) ?_
  · rintro a c rfl ⟨rfl, hg⟩; exact ⟨rfl, hg⟩
  · rintro a c ⟨rfl, _, hsz⟩ ⟨rfl, hg⟩; exact ⟨rfl, hsz, ⟨hg.v0, hg.v4, hg.s, hg.o⟩⟩
theorem paper_snd {s0 : List S28} (W : Wft s0) : ∀ (k : Nat) (acc r : List S87) (n e b n' e' b' : Int), 0 ≤ e → paperL k s0 acc n e b = some (r, n', e', b') →
    Snd s0 n e b n' e' b' (fun ts => ∃ l, r = acc ++ l ∧ (l ≠ [] → acc.length + l.length ≤ 100) ∧ (∀ f ∈ l, f.f0.size ≤ 1000000 ∧ Goodf f) ∧ ts = commasFrom acc.isEmpty (l.map fieldToks) ++ [(3, [41])]) := by
  intro k
  induction k with
  | zero => intro acc r n e b n' e' b' _ h; simp [paperL] at h
  | succ k ih =>
    intro acc r n e b n' e' b' he h
    rw [paperL] at h
    replace h := Option.bind_eq_some_iff.mp h
    obtain ⟨⟨more, q1, q2, q3⟩, hq, h⟩ := h
    dsimp only at h
    have hqq : q1 = n ∧ q2 = e ∧ q3 = b := by
      unfold moreP at hq
      split at hq
      · replace hq := Option.bind_eq_some_iff.mp hq
        obtain ⟨⟨pk, p1, p2, p3⟩, hp, hq⟩ := hq
        simp only [Option.some.injEq, Prod.mk.injEq] at hq
        obtain ⟨_, rfl, rfl, rfl⟩ := hq
        obtain ⟨rfl, rfl, rfl, _⟩ := peek_snd (m := [41]) hp
        exact ⟨rfl, rfl, rfl⟩
      · simp only [Option.some.injEq, Prod.mk.injEq] at hq
        obtain ⟨_, rfl, rfl, rfl⟩ := hq
        exact ⟨rfl, rfl, rfl⟩
    obtain ⟨rfl, rfl, rfl⟩ := hqq
    split at h
    · split at h
      · replace h := Option.bind_eq_some_iff.mp h
        obtain ⟨⟨a1, a2, a3⟩, ha, h⟩ := h
        dsimp only at h
        replace h := Option.bind_eq_some_iff.mp h
        obtain ⟨⟨b1, b2, b3⟩, hb, h⟩ := h
        dsimp only at h hb
        replace h := Option.bind_eq_some_iff.mp h
        obtain ⟨⟨f, f1, f2, f3⟩, hf, h⟩ := h
        dsimp only at h hf
        have rest : 0 ≤ a2 → Snd s0 a1 a2 a3 n' e' b' (fun ts => ∃ l, r = acc ++ f :: l ∧ acc.length + (f :: l).length ≤ 100 ∧ (∀ g ∈ f :: l, g.f0.size ≤ 1000000 ∧ Goodf g) ∧ ts = fieldToks f ++ (commasFrom false (l.map fieldToks) ++ [(3, [41])])) := by
          intro he2
          have hee : b2 = a2 := by
            unfold manyP at hb
            split at hb
            · exact (fail_snd W he2 hb).1
            · simp only [Option.some.injEq, Prod.mk.injEq] at hb; exact hb.2.1.symm
          have hfs := field_snd W (by rw [hee]; exact he2) hf
          have hr := ih (acc ++ [f]) r f1 f2 f3 n' e' b' (by rw [hfs.1, hee]; exact he2) h
          have : (acc ++ [f]).isEmpty = false := by cases acc <;> rfl
          rw [this] at hr
          unfold manyP at hb
          split at hb
          · obtain ⟨rfl, rfl, hq3⟩ := fail_snd W he2 hb
            exact Snd.bind (Q1 := fun _ => False) ⟨rfl, fun hb => absurd hb (by omega)⟩ (Snd.bind (Q := fun _ => True) hfs hr (fun _ _ _ _ => trivial)) (fun _ _ h => h.elim)
          · rename_i hc
            simp only [Option.some.injEq, Prod.mk.injEq] at hb
            obtain ⟨rfl, rfl, rfl⟩ := hb
            refine Snd.bind hfs hr ?_
            rintro x c ⟨rfl, hsz, hg⟩ ⟨l, rfl, h1, h2, rfl⟩
            refine ⟨l, by simp, ?_, ?_, rfl⟩
            · cases l with
              | nil => simp; omega
              | cons x l => have := h1 (by simp); simp at this ⊢; omega
            · intro z hz
              rcases List.mem_cons.1 hz with rfl | hz
              · exact ⟨hsz, hg⟩
              · exact h2 z hz
        unfold commaP at ha
        split at ha
        · rename_i hpos
          have hemp : acc.isEmpty = false := by cases acc with
            | nil => simp at hpos
            | cons => rfl
          have hms := mark_snd (m := [44]) W he ha
          refine Snd.bind hms (rest (by rw [hms.1]; exact he)) ?_
          rintro x c rfl ⟨l, hr, h1, h2, rfl⟩
          exact ⟨f :: l, hr, fun _ => h1, h2, by rw [hemp]; simp [commasFrom]⟩
        · rename_i hpos
          simp only [Option.some.injEq, Prod.mk.injEq] at ha
          obtain ⟨rfl, rfl, rfl⟩ := ha
          have hemp : acc.isEmpty = true := by cases acc with
            | nil => rfl
            | cons => simp at hpos
          refine Snd.imp (rest he) ?_
          rintro c ⟨l, hr, h1, h2, rfl⟩
          exact ⟨f :: l, hr, fun _ => h1, h2, by rw [hemp]; simp [commasFrom]⟩
      · simp at h
    · replace h := Option.bind_eq_some_iff.mp h
      obtain ⟨⟨m1, m2, m3⟩, hm, h⟩ := h
      simp only [Option.some.injEq, Prod.mk.injEq] at h
      obtain ⟨rfl, rfl, rfl, rfl⟩ := h
      refine Snd.imp (mark_snd (m := [41]) W he hm) fun ts hts => ⟨[], by simp, fun h => absurd rfl h, by simp, by rw [hts]; simp [commasFrom]⟩
theorem paperf_snd {s0 : List S28} (W : Wft s0) {k : Nat} {id : ByteArray} {c : Int} {l : List S87} {n e b n' e' b' : Int} (he : 0 ≤ e) (h : say_parser_paper.f k s0 n e b = some (id, c, l, n', e', b')) :
    Snd s0 n e b n' e' b' (fun ts => ts = paperToks ⟨id, c, l⟩ ∧ Okp ⟨id, c, l⟩ ∧ (∀ f ∈ l, Goodf f) ∧ l.length ≤ 100) := by
  unfold say_parser_paper.f at h
  replace h := Option.bind_eq_some_iff.mp h
  obtain ⟨⟨t, t1, t2, t3⟩, ht, h⟩ := h
  replace h := Option.bind_eq_some_iff.mp h
  obtain ⟨⟨x, x1, x2, x3⟩, hx, h⟩ := h
  replace h := Option.bind_eq_some_iff.mp h
  obtain ⟨⟨m1, m2, m3⟩, hm, h⟩ := h
  replace h := Option.bind_eq_some_iff.mp h
  obtain ⟨⟨r, r1, r2, r3⟩, hr, h⟩ := h
  dsimp only at hx hm hr
  simp only [Option.some.injEq, Prod.mk.injEq] at h
  obtain ⟨rfl, rfl, rfl, rfl, rfl, rfl⟩ := h
  have h1 := take_snd W he ht
  have h2 := number_snd W (by rw [h1.1]; exact he) hx
  have h3 := mark_snd (m := [40]) W (by rw [h2.1, h1.1]; exact he) hm
  have h4 := paper_snd W k [] r m1 m2 m3 r1 r2 r3 (by rw [h3.1, h2.1, h1.1]; exact he) hr
  refine Snd.bind h1 (Snd.bind (Q := fun ts => ts = (1, intText x) :: (3, [40]) :: (commasFrom true (r.map fieldToks) ++ [(3, [41])]) ∧ (-9223372036854775808 ≤ x ∧ x < 9223372036854775808) ∧ (∀ f ∈ r, f.f0.size ≤ 1000000 ∧ Goodf f) ∧ r.length ≤ 100) h2
    (Snd.bind (Q := fun ts => ts = (3, [40]) :: (commasFrom true (r.map fieldToks) ++ [(3, [41])]) ∧ (∀ f ∈ r, f.f0.size ≤ 1000000 ∧ Goodf f) ∧ r.length ≤ 100) h3 h4 ?_) ?_) ?_
  · rintro a c rfl ⟨l, hl, g1, g2, rfl⟩
    rw [List.nil_append] at hl
    subst hl
    refine ⟨rfl, g2, ?_⟩
    by_cases hl : r = []
    · rw [hl]; simp
    · have := g1 hl; simpa using this
  · rintro a c ⟨rfl, g1⟩ ⟨rfl, g2, g3⟩
    exact ⟨rfl, g1, g2, g3⟩
  · rintro a c ⟨rfl, _, hsz⟩ ⟨rfl, g1, g2, g3⟩
    exact ⟨rfl, ⟨hsz, g1.1, g1.2, fun f hf => ⟨(g2 f hf).1, (g2 f hf).2.o⟩, by show r.length ≤ _; omega⟩, fun f hf => (g2 f hf).2, g3⟩

end Go.Proofs.Ytokkjnfdfbpphaa.A
namespace Go.Proofs.Ytokkjnfdfbpphaa.A
open Go.RowKit Go.Proofs.YtokkjnfdfbpphaaW.PrintWords Go.Proofs.YtokkjnfdfbpphaaW.PrintLast Go.Proofs.YtokkjnfdfbpphaaW.PrintMore
attribute [local go_sem] max2_int min2_int max_two min_two max_three min_three max_four min_four   -- for this text's walks alone
set_option linter.unusedVariables false
set_option linter.unusedSimpArgs false

def tw (y : S45) : Nat := (quoted y.f2.data.toList).length + (quoted y.f3.data.toList).length + (namesText y.f4).length + (intText y.f6).length + (intText y.f7).length + (dec y.f8.toNat).length + (intText y.f9).length + (quoted y.f5.data.toList).length + (paperText y.f1).length
/-- What a step has where no word gave it anything. -/
def zeroAt (y : S45) (i : Int) : Prop :=
  (i = 0 → y.f2 = ⟨#[]⟩) ∧ (i = 1 → y.f3 = ⟨#[]⟩) ∧ (i = 2 → y.f4 = []) ∧ (i = 3 → y.f6 = 0) ∧ (i = 4 → y.f7 = 0) ∧ (i = 5 → y.f8 = 0) ∧ (i = 6 → y.f9 = 0) ∧ (i = 7 → y.f5 = ⟨#[]⟩) ∧ (i = 8 → y.f1 = z42)
structure Ay (k : Nat) (l : List Int) (w : Nat) (y : S45) : Prop where
  kind : y.f0 = (k : Int)
  ok : Oks y
  vals : ∀ f ∈ y.f1.f2, Goodf f
  n2 : y.f1.f2.length ≤ 100
  n4 : y.f4.length ≤ 100
  o : ∀ i, i ∉ l → zeroAt y i
  t : tw y ≤ w
theorem z45_ay (k : Nat) : Ay k [] 40 { z45 with f0 := (k : Int) } := by
  have hz : (⟨#[]⟩ : ByteArray).size ≤ 1000000 := by decide
  refine ⟨rfl, ⟨⟨hz, by simp [z45, z42], by simp [z45, z42], by simp [z45, z42], by simp [z45, z42]⟩, hz, hz, hz, by simp [z45], by simp [z45], by simp [z45], by simp [z45], by simp [z45], by simp [z45], by simp [z45], by simp [z45], by simp [z45], by simp [z45]⟩, by simp [z45, z42], by simp [z45, z42], by simp [z45], fun i _ => ⟨fun _ => rfl, fun _ => rfl, fun _ => rfl, fun _ => rfl, fun _ => rfl, fun _ => rfl, fun _ => rfl, fun _ => rfl, fun _ => rfl⟩, ?_⟩
  simp [tw, z45, z42, namesText, paperText, Lib.join_nil, intText, dec_small, quoted, quoteBody]
theorem Oks.set2 {y : S45} (h : Oks y) {v : ByteArray} (hv : v.size ≤ 1000000) : Oks { y with f2 := v } := ⟨h.p, hv, h.t3, h.t5, h.n, h.n4, h.i6, h.j6, h.i7, h.j7, h.i8, h.j8, h.i9, h.j9⟩
theorem Oks.set3 {y : S45} (h : Oks y) {v : ByteArray} (hv : v.size ≤ 1000000) : Oks { y with f3 := v } := ⟨h.p, h.t2, hv, h.t5, h.n, h.n4, h.i6, h.j6, h.i7, h.j7, h.i8, h.j8, h.i9, h.j9⟩
theorem Oks.set5 {y : S45} (h : Oks y) {v : ByteArray} (hv : v.size ≤ 1000000) : Oks { y with f5 := v } := ⟨h.p, h.t2, h.t3, hv, h.n, h.n4, h.i6, h.j6, h.i7, h.j7, h.i8, h.j8, h.i9, h.j9⟩
theorem arg_snd {s0 : List S28} (W : Wft s0) {K k w : Nat} {l : List Int} {y y' : S45} {a n e b n' e' b' : Int} (he : 0 ≤ e) (hA : Ay k l w y) (h : argF K s0 n e b y a = some (y', n', e', b')) : Snd s0 n e b n' e' b' (fun ts => Ay k (a :: l) (w + cw ts) y') := by
  have hin : ∀ i, i ∉ a :: l → i ≠ a ∧ zeroAt y i := fun i hi => by
    simp only [List.mem_cons, not_or] at hi
    exact ⟨hi.1, hA.o i hi.2⟩
  have hT := hA.t
  unfold tw at hT
  unfold argF at h
  by_cases k0 : a = 0
  · rw [if_pos k0] at h
    replace h := Option.bind_eq_some_iff.mp h
    obtain ⟨⟨q, q1, q2, q3⟩, hq, h⟩ := h
    simp only [Option.some.injEq, Prod.mk.injEq] at h
    obtain ⟨rfl, rfl, rfl, rfl⟩ := h
    refine Snd.imp (take_snd W he hq) fun ts hts => ?_
    obtain ⟨rfl, _, hsz⟩ := hts
    refine ⟨hA.kind, hA.ok.set2 hsz, hA.vals, hA.n2, hA.n4, fun i hi => ?_, ?_⟩
    · obtain ⟨h1, h2, h3, h4, h5, h6, h7, h8, h9, h10⟩ := hin i hi
      exact ⟨fun h => absurd (h.trans k0.symm) h1, h3, h4, h5, h6, h7, h8, h9, h10⟩
    · simp only [tw, cw_cons, cost_two]; omega
  rw [if_neg k0] at h
  by_cases k1 : a = 1
  · rw [if_pos k1] at h
    replace h := Option.bind_eq_some_iff.mp h
    obtain ⟨⟨q, q1, q2, q3⟩, hq, h⟩ := h
    simp only [Option.some.injEq, Prod.mk.injEq] at h
    obtain ⟨rfl, rfl, rfl, rfl⟩ := h
    refine Snd.imp (take_snd W he hq) fun ts hts => ?_
    obtain ⟨rfl, _, hsz⟩ := hts
    refine ⟨hA.kind, hA.ok.set3 hsz, hA.vals, hA.n2, hA.n4, fun i hi => ?_, ?_⟩
    · obtain ⟨h1, h2, h3, h4, h5, h6, h7, h8, h9, h10⟩ := hin i hi
      exact ⟨h2, fun h => absurd (h.trans k1.symm) h1, h4, h5, h6, h7, h8, h9, h10⟩
    · simp only [tw, cw_cons, cost_two]; omega
  rw [if_neg k1] at h
  by_cases k2 : a = 2
  · rw [if_pos k2] at h
    replace h := Option.bind_eq_some_iff.mp h
    obtain ⟨⟨q, q1, q2, q3⟩, hq, h⟩ := h
    simp only [Option.some.injEq, Prod.mk.injEq] at h
    obtain ⟨rfl, rfl, rfl, rfl⟩ := h
    refine Snd.imp (namesf_snd W he hq) fun ts hts => ?_
    obtain ⟨rfl, hl, hsz⟩ := hts
    have hc := names_cw q
    have o := hA.ok
    refine ⟨hA.kind, ⟨o.p, o.t2, o.t3, o.t5, hsz, by show q.length ≤ _; omega, o.i6, o.j6, o.i7, o.j7, o.i8, o.j8, o.i9, o.j9⟩, hA.vals, hA.n2, hl, fun i hi => ?_, ?_⟩
    · obtain ⟨h1, h2, h3, h4, h5, h6, h7, h8, h9, h10⟩ := hin i hi
      exact ⟨h2, h3, fun h => absurd (h.trans k2.symm) h1, h5, h6, h7, h8, h9, h10⟩
    · simp only [tw]; omega
  rw [if_neg k2] at h
  by_cases k3 : a = 3
  · rw [if_pos k3] at h
    replace h := Option.bind_eq_some_iff.mp h
    obtain ⟨⟨q, q1, q2, q3⟩, hq, h⟩ := h
    simp only [Option.some.injEq, Prod.mk.injEq] at h
    obtain ⟨rfl, rfl, rfl, rfl⟩ := h
    refine Snd.imp (number_snd W he hq) fun ts hts => ?_
    obtain ⟨rfl, hl, hr⟩ := hts
    have o := hA.ok
    refine ⟨hA.kind, ⟨o.p, o.t2, o.t3, o.t5, o.n, o.n4, hl, hr, o.i7, o.j7, o.i8, o.j8, o.i9, o.j9⟩, hA.vals, hA.n2, hA.n4, fun i hi => ?_, ?_⟩
    · obtain ⟨h1, h2, h3, h4, h5, h6, h7, h8, h9, h10⟩ := hin i hi
      exact ⟨h2, h3, h4, fun h => absurd (h.trans k3.symm) h1, h6, h7, h8, h9, h10⟩
    · simp only [tw, cw_cons, cost_other 1 _ (by decide)]; omega
  rw [if_neg k3] at h
  by_cases k4 : a = 4
  · rw [if_pos k4] at h
    replace h := Option.bind_eq_some_iff.mp h
    obtain ⟨⟨q, q1, q2, q3⟩, hq, h⟩ := h
    simp only [Option.some.injEq, Prod.mk.injEq] at h
    obtain ⟨rfl, rfl, rfl, rfl⟩ := h
    refine Snd.imp (number_snd W he hq) fun ts hts => ?_
    obtain ⟨rfl, hl, hr⟩ := hts
    have o := hA.ok
    refine ⟨hA.kind, ⟨o.p, o.t2, o.t3, o.t5, o.n, o.n4, o.i6, o.j6, hl, hr, o.i8, o.j8, o.i9, o.j9⟩, hA.vals, hA.n2, hA.n4, fun i hi => ?_, ?_⟩
    · obtain ⟨h1, h2, h3, h4, h5, h6, h7, h8, h9, h10⟩ := hin i hi
      exact ⟨h2, h3, h4, h5, fun h => absurd (h.trans k4.symm) h1, h7, h8, h9, h10⟩
    · simp only [tw, cw_cons, cost_other 1 _ (by decide)]; omega
  rw [if_neg k4] at h
  by_cases k5 : a = 5
  · rw [if_pos k5] at h
    replace h := Option.bind_eq_some_iff.mp h
    obtain ⟨⟨q, q1, q2, q3⟩, hq, h⟩ := h
    simp only [Option.some.injEq, Prod.mk.injEq] at h
    obtain ⟨rfl, rfl, rfl, rfl⟩ := h
    refine Snd.imp (count_snd W he hq) fun ts hts => ?_
    obtain ⟨hp, hl, hr⟩ := hts
    have o := hA.ok
    refine ⟨hA.kind, ⟨o.p, o.t2, o.t3, o.t5, o.n, o.n4, o.i6, o.j6, o.i7, o.j7, hl, hr, o.i9, o.j9⟩, hA.vals, hA.n2, hA.n4, fun i hi => ?_, ?_⟩
    · obtain ⟨h1, h2, h3, h4, h5, h6, h7, h8, h9, h10⟩ := hin i hi
      exact ⟨h2, h3, h4, h5, h6, fun h => absurd (h.trans k5.symm) h1, h8, h9, h10⟩
    · have hp2 : pw [((1 : Int), dec q.toNat)] = (dec q.toNat).length + 2 := by simp [pw, cost]
      simp only [tw]; omega
  rw [if_neg k5] at h
  by_cases k6 : a = 6
  · rw [if_pos k6] at h
    replace h := Option.bind_eq_some_iff.mp h
    obtain ⟨⟨q, q1, q2, q3⟩, hq, h⟩ := h
    simp only [Option.some.injEq, Prod.mk.injEq] at h
    obtain ⟨rfl, rfl, rfl, rfl⟩ := h
    refine Snd.imp (number_snd W he hq) fun ts hts => ?_
    obtain ⟨rfl, hl, hr⟩ := hts
    have o := hA.ok
    refine ⟨hA.kind, ⟨o.p, o.t2, o.t3, o.t5, o.n, o.n4, o.i6, o.j6, o.i7, o.j7, o.i8, o.j8, hl, hr⟩, hA.vals, hA.n2, hA.n4, fun i hi => ?_, ?_⟩
    · obtain ⟨h1, h2, h3, h4, h5, h6, h7, h8, h9, h10⟩ := hin i hi
      exact ⟨h2, h3, h4, h5, h6, h7, fun h => absurd (h.trans k6.symm) h1, h9, h10⟩
    · simp only [tw, cw_cons, cost_other 1 _ (by decide)]; omega
  rw [if_neg k6] at h
  by_cases k7 : a = 7
  · rw [if_pos k7] at h
    replace h := Option.bind_eq_some_iff.mp h
    obtain ⟨⟨q, q1, q2, q3⟩, hq, h⟩ := h
    simp only [Option.some.injEq, Prod.mk.injEq] at h
    obtain ⟨rfl, rfl, rfl, rfl⟩ := h
    refine Snd.imp (take_snd W he hq) fun ts hts => ?_
    obtain ⟨rfl, _, hsz⟩ := hts
    refine ⟨hA.kind, hA.ok.set5 hsz, hA.vals, hA.n2, hA.n4, fun i hi => ?_, ?_⟩
    · obtain ⟨h1, h2, h3, h4, h5, h6, h7, h8, h9, h10⟩ := hin i hi
      exact ⟨h2, h3, h4, h5, h6, h7, h8, fun h => absurd (h.trans k7.symm) h1, h10⟩
    · simp only [tw, cw_cons, cost_two]; omega
  rw [if_neg k7] at h
  by_cases k8 : a = 8
  · rw [if_pos k8] at h
    replace h := Option.bind_eq_some_iff.mp h
    obtain ⟨⟨id, c, r, q1, q2, q3⟩, hq, h⟩ := h
    simp only [Option.some.injEq, Prod.mk.injEq] at h
    obtain ⟨rfl, rfl, rfl, rfl⟩ := h
    refine Snd.imp (paperf_snd W he hq) fun ts hts => ?_
    obtain ⟨rfl, hp, hg, hl⟩ := hts
    have hc := paper_cw ⟨id, c, r⟩ hg
    have o := hA.ok
    refine ⟨hA.kind, ⟨hp, o.t2, o.t3, o.t5, o.n, o.n4, o.i6, o.j6, o.i7, o.j7, o.i8, o.j8, o.i9, o.j9⟩, hg, hl, hA.n4, fun i hi => ?_, ?_⟩
    · obtain ⟨h1, h2, h3, h4, h5, h6, h7, h8, h9, h10⟩ := hin i hi
      exact ⟨h2, h3, h4, h5, h6, h7, h8, h9, fun h => absurd (h.trans k8.symm) h1⟩
    · simp only [tw]; omega
  rw [if_neg k8] at h
  simp at h
theorem Snd.here {s0 : List S28} {n e b : Int} (hn : b < 0 → 0 ≤ n) {Q : Tks → Prop} (hQ : Q []) : Snd s0 n e b n e b Q :=
  ⟨rfl, fun hb => ⟨hb, rfl, n.toNat, [], by have := hn hb; omega, ⟨_, rfl⟩, by have := hn hb; simp; omega, hQ⟩⟩
theorem Snd.nat {s0 : List S28} {n e b n' e' b' : Int} {Q : Tks → Prop} (h : Snd s0 n e b n' e' b' Q) : b' < 0 → 0 ≤ n' := fun hb => by
  obtain ⟨_, _, m, ts, _, _, hn, _⟩ := h.2 hb
  omega
theorem argF_map {K : Nat} {s0 : List S28} {n e b a : Int} (y z : S45) : argF K s0 n e b y a = (argF K s0 n e b z a).map fun q => (setArg y q.1 a, q.2) := by
  by_cases k0 : a = 0
  · subst k0
    show (say_parser_take.f s0 n e b 2).bind _ = ((say_parser_take.f s0 n e b 2).bind _).map _
    cases say_parser_take.f s0 n e b 2 <;> rfl
  by_cases k1 : a = 1
  · subst k1
    show (say_parser_take.f s0 n e b 2).bind _ = ((say_parser_take.f s0 n e b 2).bind _).map _
    cases say_parser_take.f s0 n e b 2 <;> rfl
  by_cases k2 : a = 2
  · subst k2
    show (say_parser_names.f K s0 n e b).bind _ = ((say_parser_names.f K s0 n e b).bind _).map _
    cases say_parser_names.f K s0 n e b <;> rfl
  by_cases k3 : a = 3
  · subst k3
    show (say_parser_number.f s0 n e b).bind _ = ((say_parser_number.f s0 n e b).bind _).map _
    cases say_parser_number.f s0 n e b <;> rfl
  by_cases k4 : a = 4
  · subst k4
    show (say_parser_number.f s0 n e b).bind _ = ((say_parser_number.f s0 n e b).bind _).map _
    cases say_parser_number.f s0 n e b <;> rfl
  by_cases k5 : a = 5
  · subst k5
    show (say_parser_count.f K s0 n e b).bind _ = ((say_parser_count.f K s0 n e b).bind _).map _
    cases say_parser_count.f K s0 n e b <;> rfl
  by_cases k6 : a = 6
  · subst k6
    show (say_parser_number.f s0 n e b).bind _ = ((say_parser_number.f s0 n e b).bind _).map _
    cases say_parser_number.f s0 n e b <;> rfl
  by_cases k7 : a = 7
  · subst k7
    show (say_parser_take.f s0 n e b 2).bind _ = ((say_parser_take.f s0 n e b 2).bind _).map _
    cases say_parser_take.f s0 n e b 2 <;> rfl
  by_cases k8 : a = 8
  · subst k8
    show (say_parser_paper.f K s0 n e b).bind _ = ((say_parser_paper.f K s0 n e b).bind _).map _
    cases say_parser_paper.f K s0 n e b <;> rfl
  unfold argF
  simp only [if_neg k0, if_neg k1, if_neg k2, if_neg k3, if_neg k4, if_neg k5, if_neg k6, if_neg k7, if_neg k8]
  rfl
theorem argF_any {K : Nat} {s0 : List S28} {n e b a n' e' b' : Int} {y y' : S45} (z : S45) (h : argF K s0 n e b y a = some (y', n', e', b')) : ∃ y2, argF K s0 n e b z a = some (y2, n', e', b') := by
  rw [argF_map z y, h]
  exact ⟨_, rfl⟩
theorem args_keep {s0 : List S28} (W : Wft s0) {K : Nat} : ∀ (L : List Int) (y y' : S45) (n e b n' e' b' : Int), 0 ≤ e → argsF K s0 L y n e b = some (y', n', e', b') → e' = e ∧ (b' < 0 → b < 0)
  | [], y, y', n, e, b, n', e', b', _, h => by
    simp only [argsF, Option.some.injEq, Prod.mk.injEq] at h
    obtain ⟨_, _, rfl, rfl⟩ := h
    exact ⟨rfl, id⟩
  | a :: L, y, y', n, e, b, n', e', b', he, h => by
    rw [argsF] at h
    replace h := Option.bind_eq_some_iff.mp h
    obtain ⟨⟨y1, q1, q2, q3⟩, hq, h⟩ := h
    dsimp only at h
    obtain ⟨y2, hq2⟩ := argF_any { z45 with f0 := ((0 : Nat) : Int) } hq
    have h1 := arg_snd W he (z45_ay 0) hq2
    obtain ⟨k1, k2⟩ := args_keep W L y1 y' q1 q2 q3 n' e' b' (by rw [h1.1]; exact he) h
    exact ⟨by rw [k1, h1.1], fun hb => (h1.2 (k2 hb)).1⟩
theorem args_snd {s0 : List S28} (W : Wft s0) {K k : Nat} : ∀ (L l : List Int) (w : Nat) (y y' : S45) (n e b n' e' b' : Int), 0 ≤ e → (b < 0 → 0 ≤ n) → Ay k l w y → argsF K s0 L y n e b = some (y', n', e', b') →
    Snd s0 n e b n' e' b' (fun ts => ∃ l', (∀ i, i ∈ l' ↔ i ∈ l ∨ i ∈ L) ∧ Ay k l' (w + cw ts) y')
  | [], l, w, y, y', n, e, b, n', e', b', _, hn, hA, h => by
    simp only [argsF, Option.some.injEq, Prod.mk.injEq] at h
    obtain ⟨rfl, rfl, rfl, rfl⟩ := h
    exact Snd.here hn ⟨l, by simp, hA⟩
  | a :: L, l, w, y, y', n, e, b, n', e', b', he, hn, hA, h => by
    rw [argsF] at h
    replace h := Option.bind_eq_some_iff.mp h
    obtain ⟨⟨y1, q1, q2, q3⟩, hq, h⟩ := h
    dsimp only at h
    have h1 := arg_snd W he hA hq
    by_cases hq3 : q3 < 0
    · obtain ⟨rfl, h1⟩ := h1
      obtain ⟨hb, rfl, m, ts, hm, hst, hn1, hA1⟩ := h1 hq3
      have hr := args_snd W L (a :: l) (w + cw ts) y1 y' q1 q2 q3 n' e' b' he (fun _ => by omega) hA1 h
      refine Snd.bind (Q1 := fun t => t = ts) ⟨rfl, fun _ => ⟨hb, rfl, m, ts, hm, hst, hn1, rfl⟩⟩ hr ?_
      rintro t1 t2 rfl ⟨l', hl, hA2⟩
      refine ⟨l', fun i => by rw [hl i, List.mem_cons, List.mem_cons, or_assoc, or_left_comm], ?_⟩
      rw [cw_append, ← Nat.add_assoc]; exact hA2
    · obtain ⟨e1, _⟩ := h1
      obtain ⟨k1, k2⟩ := args_keep W L y1 y' q1 q2 q3 n' e' b' (by rw [e1]; exact he) h
      exact ⟨by rw [k1, e1], fun hb => absurd (k2 hb) hq3⟩
def kindSix (i : Int) : Prop := i = 0 ∨ i = 1 ∨ i = 2
theorem kindFrom_at (t : List UInt8) : ∀ (L : List (List UInt8)) (j i : Nat), kindFrom t j L = some i → j ≤ i ∧ i < j + L.length ∧ t ≠ [] ∧ L[i - j]? = some t
  | [], j, i, h => by simp [kindFrom] at h
  | f :: L, j, i, h => by
    rw [kindFrom] at h
    split at h
    · obtain ⟨h1, h2, h3, h4⟩ := kindFrom_at t L (j + 1) i h
      refine ⟨by omega, by simp only [List.length_cons]; omega, h3, ?_⟩
      rw [show i - j = (i - (j + 1)) + 1 by omega]; simpa using h4
    · rename_i hc
      simp only [Option.some.injEq] at h
      subst h
      simp only [ne_eq, not_or, Decidable.not_not] at hc
      refine ⟨Nat.le_refl _, by simp, fun h => hc.2 (by rw [hc.1, h]), by simp [hc.1]⟩
theorem kindOf_range (t : List UInt8) (i : Nat) (h : kindOf t = some i) : 1 ≤ i ∧ i ≤ 15 ∧ wordOf i = t := by
  obtain ⟨h1, h2, h3, h4⟩ := kindFrom_at t wordL 0 i h
  have hl : wordL.length = 16 := rfl
  rw [Nat.sub_zero] at h4
  refine ⟨?_, by omega, by unfold wordOf; rw [List.getD_eq_getElem?_getD, h4]; rfl⟩
  rcases Nat.eq_zero_or_pos i with h0 | h0
  · subst h0
    simp [wordL] at h4
    exact absurd h4 h3
  · exact h0
theorem argsOf_mem (k : Nat) (h1 : 1 ≤ k) (h2 : k ≤ 15) : ((0 : Int) ∈ argsOf k ↔ k = 2 ∨ k = 4 ∨ k = 3 ∨ k = 5 ∨ k = 6 ∨ k = 14) ∧ ((1 : Int) ∈ argsOf k ↔ k = 3 ∨ k = 5 ∨ k = 6) ∧ ((2 : Int) ∈ argsOf k ↔ k = 14) ∧ ((3 : Int) ∈ argsOf k ↔ k = 8 ∨ k = 12 ∨ k = 14 ∨ k = 15) ∧
    ((4 : Int) ∈ argsOf k ↔ k = 15) ∧ ((5 : Int) ∈ argsOf k ↔ k = 11 ∨ k = 12) ∧ ((6 : Int) ∈ argsOf k ↔ k = 11 ∨ k = 12) ∧ ((7 : Int) ∈ argsOf k ↔ k = 1) ∧ ((8 : Int) ∈ argsOf k ↔ k = 1) := by
  have key : ∀ m : Fin 16, 1 ≤ m.1 → ((0 : Int) ∈ argsOf m.1 ↔ m.1 = 2 ∨ m.1 = 4 ∨ m.1 = 3 ∨ m.1 = 5 ∨ m.1 = 6 ∨ m.1 = 14) ∧ ((1 : Int) ∈ argsOf m.1 ↔ m.1 = 3 ∨ m.1 = 5 ∨ m.1 = 6) ∧ ((2 : Int) ∈ argsOf m.1 ↔ m.1 = 14) ∧ ((3 : Int) ∈ argsOf m.1 ↔ m.1 = 8 ∨ m.1 = 12 ∨ m.1 = 14 ∨ m.1 = 15) ∧
    ((4 : Int) ∈ argsOf m.1 ↔ m.1 = 15) ∧ ((5 : Int) ∈ argsOf m.1 ↔ m.1 = 11 ∨ m.1 = 12) ∧ ((6 : Int) ∈ argsOf m.1 ↔ m.1 = 11 ∨ m.1 = 12) ∧ ((7 : Int) ∈ argsOf m.1 ↔ m.1 = 1) ∧ ((8 : Int) ∈ argsOf m.1 ↔ m.1 = 1) := by decide
  exact key ⟨k, by omega⟩ h1
theorem ay_clean {k w : Nat} {l : List Int} {y : S45} (h1 : 1 ≤ k) (h2 : k ≤ 15) (hl : ∀ i, i ∈ l ↔ i ∈ argsOf k) (hA : Ay k l w y) : cleanS y = y := by
  obtain ⟨m0, m1, m2, m3, m4, m5, m6, m7, m8⟩ := argsOf_mem k h1 h2
  have hk := hA.kind
  have z : ∀ i, i ∉ argsOf k → zeroAt y i := fun i hi => hA.o i (fun h => hi ((hl i).1 h))
  obtain ⟨f0, f1, f2, f3, f4, f5, f6, f7, f8, f9⟩ := y
  simp only at hk
  subst hk
  have ite_self {α : Type} (c : Prop) [Decidable c] (a b : α) (h : ¬ c → a = b) : (if c then a else b) = a := by
    by_cases hc : c
    · rw [if_pos hc]
    · rw [if_neg hc, h hc]
  unfold cleanS
  simp only [S45.mk.injEq, true_and]
  refine ⟨ite_self _ _ _ fun h => (z 8 (fun hm => h (by have := m8.1 hm; omega))).2.2.2.2.2.2.2.2 rfl, ite_self _ _ _ fun h => (z 0 (fun hm => h (by have := m0.1 hm; omega))).1 rfl, ite_self _ _ _ fun h => (z 1 (fun hm => h (by have := m1.1 hm; omega))).2.1 rfl,
    ite_self _ _ _ fun h => (z 2 (fun hm => h (by have := m2.1 hm; omega))).2.2.1 rfl, ite_self _ _ _ fun h => (z 7 (fun hm => h (by have := m7.1 hm; omega))).2.2.2.2.2.2.2.1 rfl, ite_self _ _ _ fun h => (z 3 (fun hm => h (by have := m3.1 hm; omega))).2.2.2.1 rfl,
    ite_self _ _ _ fun h => (z 4 (fun hm => h (by have := m4.1 hm; omega))).2.2.2.2.1 rfl, ite_self _ _ _ fun h => (z 5 (fun hm => h (by have := m5.1 hm; omega))).2.2.2.2.2.1 rfl, ite_self _ _ _ fun h => (z 6 (fun hm => h (by have := m6.1 hm; omega))).2.2.2.2.2.2.1 rfl⟩
theorem print_tw (y : S45) (k : Nat) (hk : y.f0 = (k : Int)) (h1 : 1 ≤ k) (h2 : k ≤ 15) : (printText y).length ≤ 20 + tw y := by
  have hw : (wordOf k).length ≤ 7 := by
    have key : ∀ m : Fin 16, (wordOf m.1).length ≤ 7 := by decide
    exact key ⟨k, by omega⟩
  unfold printText
  rw [if_pos (by omega), hk, Int.toNat_natCast, List.length_append, Lib.join_length]
  have hc : k = 1 ∨ k = 2 ∨ k = 3 ∨ k = 4 ∨ k = 5 ∨ k = 6 ∨ k = 7 ∨ k = 8 ∨ k = 9 ∨ k = 10 ∨ k = 11 ∨ k = 12 ∨ k = 13 ∨ k = 14 ∨ k = 15 := by omega
  unfold tw
  rcases hc with rfl | rfl | rfl | rfl | rfl | rfl | rfl | rfl | rfl | rfl | rfl | rfl | rfl | rfl | rfl
  all_goals
    simp [argsOf, Lib.lens, argText]
    omega
theorem step_snd {s0 : List S28} (W : Wft s0) {K : Nat} {y : S45} {n e b n' e' b' : Int} (he : 0 ≤ e) (h : stepF K s0 n e b = some (y, n', e', b')) :
    Snd s0 n e b n' e' b' (fun ts => Good y ∧ cleanS y = y ∧ (printText y).length ≤ 60 + cw ts ∧ 1 ≤ ts.length) := by
  unfold stepF at h
  replace h := Option.bind_eq_some_iff.mp h
  obtain ⟨⟨t, t1, t2, t3⟩, ht, h⟩ := h
  dsimp only at h
  have hts := take_snd W he ht
  cases hk : kindOf t.data.toList with
  | none =>
    rw [hk] at h
    replace h := Option.bind_eq_some_iff.mp h
    obtain ⟨⟨m1, m2, m3⟩, hm, h⟩ := h
    simp only [Option.some.injEq, Prod.mk.injEq] at h
    obtain ⟨rfl, rfl, rfl, rfl⟩ := h
    exact fail_Snd W (by rw [hts.1]; exact he) hts.1.symm hm
  | some i =>
    obtain ⟨i1, i2, _⟩ := kindOf_range _ i hk
    rw [hk] at h
    dsimp only at h
    replace h := Option.bind_eq_some_iff.mp h
    obtain ⟨l, hl, h⟩ := h
    have hlE : l = argsOf i := by
      have a1 := rounds_le (fun k => say_args.f k ((i : Nat) : Int)) (fun k => say_args.mono _ k) (Nat.le_max_left 5 K) (args_some i i1 i2)
      have a2 := rounds_le (fun k => say_args.f k ((i : Nat) : Int)) (fun k => say_args.mono _ k) (Nat.le_max_right 5 K) hl
      rw [a1] at a2
      exact (Option.some.inj a2).symm
    subst hlE
    replace h := Option.bind_eq_some_iff.mp h
    obtain ⟨⟨y1, q1, q2, q3⟩, hq, h⟩ := h
    dsimp only at h
    replace h := Option.bind_eq_some_iff.mp h
    obtain ⟨⟨m1, m2, m3⟩, hm, h⟩ := h
    simp only [Option.some.injEq, Prod.mk.injEq] at h
    obtain ⟨rfl, rfl, rfl, rfl⟩ := h
    have has := args_snd W (argsOf i) [] 40 _ y1 t1 t2 t3 q1 q2 q3 (by rw [hts.1]; exact he) (Snd.nat hts) (z45_ay i) hq
    have hms := mark_snd (m := [59]) W (by rw [has.1, hts.1]; exact he) hm
    refine Snd.bind hts (Snd.bind (Q := fun ts => Good y1 ∧ cleanS y1 = y1 ∧ (printText y1).length ≤ 60 + cw ts) has hms ?_) ?_
    · rintro a c ⟨l', hl', hA⟩ rfl
      have hp := print_tw y1 i hA.kind i1 i2
      have ht := hA.t
      have hk := hA.kind
      refine ⟨⟨by omega, by omega, hA.ok, fun _ => ⟨hA.vals, hA.n2⟩, hA.n4⟩, ay_clean i1 i2 (fun j => by rw [hl' j]; simp) hA, ?_⟩
      rw [cw_append]; omega
    · rintro a c ⟨rfl, _⟩ ⟨g1, g2, g3⟩
      refine ⟨g1, g2, ?_, by simp⟩
      rw [cw_append]; omega
theorem script_snd {s0 : List S28} (W : Wft s0) : ∀ (k : Nat) (acc r : List S45) (n e b b' : Int), 0 ≤ e → (b < 0 → 0 ≤ n) → scriptL k s0 acc n e b = some (r, b') → b' < 0 →
    ∃ (l : List S45) (ts : Tks), r = acc ++ l ∧ b < 0 ∧ Stands s0 n.toNat ts ∧ (∀ x ∈ l, Good x ∧ cleanS x = x) ∧ (allText l).length ≤ 61 * l.length + cw ts ∧ l.length ≤ ts.length
  | 0, acc, r, n, e, b, b', _, _, h, _ => by simp [scriptL] at h
  | k + 1, acc, r, n, e, b, b', he, hn, h, hb => by
    rw [scriptL] at h
    split at h
    · rename_i hc
      split at h
      · replace h := Option.bind_eq_some_iff.mp h
        obtain ⟨⟨y, q1, q2, q3⟩, hq, h⟩ := h
        dsimp only at h
        have hs := step_snd W he hq
        obtain ⟨l, t2, rfl, hq3, hst2, hg, hlen, hcnt⟩ := script_snd W k (acc ++ [y]) r q1 q2 q3 b' (by rw [hs.1]; exact he) (Snd.nat hs) h hb
        obtain ⟨hb0, rfl, m, t1, hm, hst1, hn1, g1, g2, g3, g4⟩ := hs.2 hq3
        refine ⟨y :: l, t1 ++ t2, by simp, hb0, ?_, ?_, ?_, ?_⟩
        · rw [hm, Int.toNat_natCast]
          rw [hn1, Int.toNat_natCast] at hst2
          exact hst1.join hst2
        · intro x hx
          rcases List.mem_cons.1 hx with rfl | hx
          · exact ⟨g1, g2⟩
          · exact hg x hx
        · rw [cw_append]
          have : allText (y :: l) = (printText y ++ [10]) ++ allText l := by simp [allText]
          rw [this]; simp only [List.length_append, List.length_cons, List.length_nil]; omega
        · simp only [List.length_cons, List.length_append]; omega
      · simp at h
    · simp only [Option.some.injEq, Prod.mk.injEq] at h
      obtain ⟨rfl, rfl⟩ := h
      exact ⟨[], [], by simp, hb, ⟨_, rfl⟩, by simp, by simp [allText], by simp⟩

end Go.Proofs.Ytokkjnfdfbpphaa.A
namespace Go.Proofs.Ytokkjnfdfbpphaa.A
open Go.RowKit Go.Proofs.YtokkjnfdfbpphaaW.PrintWords Go.Proofs.YtokkjnfdfbpphaaW.PrintLast Go.Proofs.YtokkjnfdfbpphaaW.PrintMore
attribute [local go_sem] max2_int min2_int max_two min_two max_three min_three max_four min_four   -- for this text's walks alone
set_option linter.unusedVariables false
set_option linter.unusedSimpArgs false

/-! where a fault is told: at a token, or at the end -/
def Kb (s0 : List S28) (e b e' b' : Int) : Prop := e' = e ∧ (b' = b ∨ b' = e ∨ ∃ s ∈ s0, b' = s.f2)
theorem Kb.refl (s0 : List S28) (e b : Int) : Kb s0 e b e b := ⟨rfl, .inl rfl⟩
theorem Kb.trans {s0 : List S28} {e b e1 b1 e2 b2 : Int} (h : Kb s0 e b e1 b1) (k : Kb s0 e1 b1 e2 b2) : Kb s0 e b e2 b2 := by
  obtain ⟨rfl, h⟩ := h
  obtain ⟨rfl, k⟩ := k
  refine ⟨rfl, ?_⟩
  rcases k with k | k
  · rw [k]; exact h
  · exact .inr k
theorem fail_kb {s0 : List S28} {n e b n' e' b' : Int} (h : say_parser_fail.f s0 n e b = some (n', e', b')) : Kb s0 e b e' b' := by
  unfold say_parser_fail.f say_parser_here.f at h
  split at h
  · split at h
    · split at h
      · simp only [Option.bind_some, Option.some.injEq, Prod.mk.injEq] at h
        obtain ⟨rfl, rfl, rfl⟩ := h
        have hn : n.toNat < s0.length := by omega
        have e1 : rd_T28 s0 n = s0[n.toNat] := by simp [rd_T28, List.getD_eq_getElem?_getD, hn]
        exact ⟨rfl, .inr (.inr ⟨_, List.getElem_mem hn, by rw [e1]⟩)⟩
      · simp at h
    · simp only [Option.bind_some, Option.some.injEq, Prod.mk.injEq] at h
      obtain ⟨rfl, rfl, rfl⟩ := h
      exact ⟨rfl, .inr (.inl rfl)⟩
  · simp only [Option.some.injEq, Prod.mk.injEq] at h
    obtain ⟨rfl, rfl, rfl⟩ := h
    exact Kb.refl _ _ _
theorem take_kb {s0 : List S28} {n e b k n' e' b' : Int} {t : ByteArray} (h : say_parser_take.f s0 n e b k = some (t, n', e', b')) : Kb s0 e b e' b' := by
  unfold say_parser_take.f at h
  repeat' split at h
  all_goals first
    | (simp at h; done)
    | (simp only [Option.some.injEq, Prod.mk.injEq] at h
       obtain ⟨_, _, rfl, rfl⟩ := h
       exact Kb.refl _ _ _)
    | (replace h := Option.bind_eq_some_iff.mp h
       obtain ⟨⟨q1, q2, q3⟩, hq, h⟩ := h
       simp only [Option.some.injEq, Prod.mk.injEq] at h
       obtain ⟨_, _, rfl, rfl⟩ := h
       exact fail_kb hq)
theorem peek_kb {s0 : List S28} {n e b n' e' b' : Int} {m : ByteArray} {r : Bool} (h : say_parser_peek.f s0 n e b m = some (r, n', e', b')) : n' = n ∧ e' = e ∧ b' = b := by
  obtain ⟨h1, h2, h3, _⟩ := peek_snd (m := m.data.toList) (by rw [ba_self]; exact h)
  exact ⟨h1, h2, h3⟩
theorem mark_kb {s0 : List S28} {n e b n' e' b' : Int} {m : ByteArray} (h : say_parser_mark.f s0 n e b m = some (n', e', b')) : Kb s0 e b e' b' := by
  unfold say_parser_mark.f at h
  replace h := Option.bind_eq_some_iff.mp h
  obtain ⟨⟨r, q1, q2, q3⟩, hq, h⟩ := h
  obtain ⟨rfl, rfl, rfl⟩ := peek_kb hq
  clear hq
  dsimp only at h
  split at h
  · simp only [Option.some.injEq, Prod.mk.injEq] at h
    obtain ⟨_, rfl, rfl⟩ := h
    exact Kb.refl _ _ _
  · replace h := Option.bind_eq_some_iff.mp h
    obtain ⟨⟨p1, p2, p3⟩, hp, h⟩ := h
    simp only [Option.some.injEq, Prod.mk.injEq] at h
    obtain ⟨_, rfl, rfl⟩ := h
    exact fail_kb hp
theorem number_kb {s0 : List S28} {n e b n' e' b' x : Int} (h : say_parser_number.f s0 n e b = some (x, n', e', b')) : Kb s0 e b e' b' := by
  unfold say_parser_number.f at h
  replace h := Option.bind_eq_some_iff.mp h
  obtain ⟨⟨t, t1, t2, t3⟩, ht, h⟩ := h
  have h1 := take_kb ht
  dsimp only at h
  split at h
  · simp only [Option.some.injEq, Prod.mk.injEq] at h
    obtain ⟨_, _, rfl, rfl⟩ := h
    exact h1
  · split at h
    · cases hv : numVal t.data.toList with
      | none =>
        rw [hv] at h
        replace h := Option.bind_eq_some_iff.mp h
        obtain ⟨⟨p1, p2, p3⟩, hp, h⟩ := h
        simp only [Option.some.injEq, Prod.mk.injEq] at h
        obtain ⟨_, _, rfl, rfl⟩ := h
        exact h1.trans (fail_kb hp)
      | some v =>
        rw [hv] at h
        simp only [Option.some.injEq, Prod.mk.injEq] at h
        obtain ⟨_, _, rfl, rfl⟩ := h
        exact h1
    · simp at h
theorem count_kb {s0 : List S28} {k : Nat} {n e b n' e' b' x : Int} (h : say_parser_count.f k s0 n e b = some (x, n', e', b')) : Kb s0 e b e' b' := by
  unfold say_parser_count.f at h
  replace h := Option.bind_eq_some_iff.mp h
  obtain ⟨⟨t, t1, t2, t3⟩, ht, h⟩ := h
  have h1 := take_kb ht
  replace h := Option.bind_eq_some_iff.mp h
  obtain ⟨⟨d1, d2⟩, hd, h⟩ := h
  dsimp only at h
  have j0 : ∀ q, say_parser_count.j0 k n d1 d2 q s0 t1 t2 t3 = some (x, n', e', b') → Kb s0 t2 t3 e' b' := by
    intro q h
    cases k with
    | zero => simp [say_parser_count.j0] at h
    | succ k =>
      rw [say_parser_count.j0] at h
      split at h
      · replace h := Option.bind_eq_some_iff.mp h
        obtain ⟨⟨p1, p2, p3⟩, hp, h⟩ := h
        split at h
        · simp only [Option.some.injEq, Prod.mk.injEq] at h
          obtain ⟨_, _, rfl, rfl⟩ := h
          exact fail_kb hp
        · simp only [Option.some.injEq, Prod.mk.injEq] at h
          obtain ⟨_, _, rfl, rfl⟩ := h
          exact fail_kb hp
      · split at h
        · simp only [Option.some.injEq, Prod.mk.injEq] at h
          obtain ⟨_, _, rfl, rfl⟩ := h
          exact Kb.refl _ _ _
        · simp only [Option.some.injEq, Prod.mk.injEq] at h
          obtain ⟨_, _, rfl, rfl⟩ := h
          exact Kb.refl _ _ _
  split at h
  · exact h1.trans (j0 _ h)
  · exact h1.trans (j0 _ h)
theorem float_kb {s0 : List S28} (at_ : Int) (t : ByteArray) (u0 : Int) (u1 : Bool) (u2 : Int) (u4 : ByteArray) : ∀ (k : Nat) (sz j n e b acc n' e' b' v0 : Int) (v1 : Bool) (v2 v3 : Int) (v4 : ByteArray), say_parser_float.l0 k at_ t sz j s0 n e b u0 u1 u2 acc u4 = some (v0, v1, v2, v3, v4, n', e', b') → Kb s0 e b e' b' := by
  intro k
  induction k with
  | zero => intro sz j n e b acc n' e' b' v0 v1 v2 v3 v4 h; simp [say_parser_float.l0] at h
  | succ k ih =>
    intro sz j n e b acc n' e' b' v0 v1 v2 v3 v4 h
    rw [say_parser_float.l0] at h
    split at h
    · split at h
      · split at h
        · replace h := Option.bind_eq_some_iff.mp h
          obtain ⟨d, hd, h⟩ := h
          split at h
          · replace h := Option.bind_eq_some_iff.mp h
            obtain ⟨⟨p1, p2, p3⟩, hp, h⟩ := h
            simp only [Option.some.injEq, Prod.mk.injEq] at h
            obtain ⟨_, _, _, _, _, _, rfl, rfl⟩ := h
            exact fail_kb hp
          · split at h
            · exact ih _ _ _ _ _ _ _ _ _ _ _ _ _ _ h
            · replace h := Option.bind_eq_some_iff.mp h
              obtain ⟨⟨p1, p2, p3⟩, hp, h⟩ := h
              simp only [Option.some.injEq, Prod.mk.injEq] at h
              obtain ⟨_, _, _, _, _, _, rfl, rfl⟩ := h
              exact fail_kb hp
        · simp at h
      · simp at h
    · split at h
      · replace h := Option.bind_eq_some_iff.mp h
        obtain ⟨⟨p1, p2, p3⟩, hp, h⟩ := h
        replace h := Option.bind_eq_some_iff.mp h
        obtain ⟨⟨q1, q2, q3⟩, hq, h⟩ := h
        simp only [Option.some.injEq, Prod.mk.injEq] at h
        obtain ⟨_, _, _, _, _, _, rfl, rfl⟩ := h
        exact (fail_kb hp).trans (mark_kb hq)
      · replace h := Option.bind_eq_some_iff.mp h
        obtain ⟨⟨q1, q2, q3⟩, hq, h⟩ := h
        simp only [Option.some.injEq, Prod.mk.injEq] at h
        obtain ⟨_, _, _, _, _, _, rfl, rfl⟩ := h
        exact mark_kb hq
theorem value_kb {s0 : List S28} {k : Nat} {n e b n' e' b' v0 v2 v3 : Int} {v1 : Bool} {v4 : ByteArray} (h : say_parser_value.f k s0 n e b = some (v0, v1, v2, v3, v4, n', e', b')) : Kb s0 e b e' b' := by
  have word : ∀ q t, say_parser_word.j0 k t t q s0 n e b = some (v0, v1, v2, v3, v4, n', e', b') → Kb s0 e b e' b' := by
    intro q t h
    cases k with
    | zero => simp [say_parser_word.j0] at h
    | succ k =>
      rw [say_parser_word.j0] at h
      split at h
      · simp only [Option.some.injEq, Prod.mk.injEq] at h
        obtain ⟨_, _, _, _, _, _, rfl, rfl⟩ := h
        exact Kb.refl _ _ _
      · split at h
        · replace h := Option.bind_eq_some_iff.mp h
          obtain ⟨⟨u0, u1, u2, u3, u4, u5, u6, u7⟩, hu, h⟩ := h
          simp only [Option.some.injEq, Prod.mk.injEq] at h
          obtain ⟨_, _, _, _, _, _, rfl, rfl⟩ := h
          unfold say_parser_float.f at hu
          replace hu := Option.bind_eq_some_iff.mp hu
          obtain ⟨⟨m1, m2, m3⟩, hm, hu⟩ := hu
          replace hu := Option.bind_eq_some_iff.mp hu
          obtain ⟨⟨q, q1, q2, q3⟩, hq, hu⟩ := hu
          dsimp only at hu hq
          have h1 := (mark_kb hm).trans (take_kb hq)
          split at hu
          · simp only [Option.some.injEq, Prod.mk.injEq] at hu
            obtain ⟨_, _, _, _, _, _, rfl, rfl⟩ := hu
            exact h1
          · exact h1.trans (float_kb _ _ _ _ _ _ _ _ _ _ _ _ _ _ _ _ _ _ _ _ _ hu)
        · replace h := Option.bind_eq_some_iff.mp h
          obtain ⟨⟨p1, p2, p3⟩, hp, h⟩ := h
          simp only [Option.some.injEq, Prod.mk.injEq] at h
          obtain ⟨_, _, _, _, _, _, rfl, rfl⟩ := h
          exact fail_kb hp
  unfold say_parser_value.f say_parser_word.f at h
  repeat' split at h
  all_goals first
    | exact word _ _ h
    | (simp at h; done)
    | (simp only [Option.some.injEq, Prod.mk.injEq] at h
       obtain ⟨_, _, _, _, _, _, rfl, rfl⟩ := h
       exact Kb.refl _ _ _)
    | (replace h := Option.bind_eq_some_iff.mp h
       obtain ⟨⟨p1, p2, p3⟩, hp, h⟩ := h
       simp only [Option.some.injEq, Prod.mk.injEq] at h
       obtain ⟨_, _, _, _, _, _, rfl, rfl⟩ := h
       exact fail_kb hp)
    | (replace h := Option.bind_eq_some_iff.mp h
       obtain ⟨⟨p0, p1, p2, p3⟩, hp, h⟩ := h
       simp only [Option.some.injEq, Prod.mk.injEq] at h
       obtain ⟨_, _, _, _, _, _, rfl, rfl⟩ := h
       exact number_kb hp)
theorem names_kb {s0 : List S28} : ∀ (k : Nat) (acc r : List ByteArray) (c n e b n' e' b' : Int), say_parser_names.l0 k acc c s0 n e b = some (r, n', e', b') → Kb s0 e b e' b' := by
  intro k
  induction k using Nat.strongRecOn with
  | ind k ih =>
    intro acc r c n e b n' e' b' h
    have j1 : ∀ (j : Nat) (q : Bool) (n1 e1 b1 : Int), j < k → say_parser_names.j1 j acc c q s0 n1 e1 b1 = some (r, n', e', b') → Kb s0 e1 b1 e' b' := by
      intro j q n1 e1 b1 hj h
      cases j with
      | zero => simp [say_parser_names.j1] at h
      | succ j =>
        have j2 : ∀ (n1 e1 b1 : Int), say_parser_names.j2 j acc c s0 n1 e1 b1 = some (r, n', e', b') → Kb s0 e1 b1 e' b' := by
          intro n1 e1 b1 h
          cases j with
          | zero => simp [say_parser_names.j2] at h
          | succ j =>
            rw [say_parser_names.j2] at h
            split at h
            · replace h := Option.bind_eq_some_iff.mp h
              obtain ⟨⟨q1, q2, q3⟩, hq, h⟩ := h
              dsimp only at h
              replace h := Option.bind_eq_some_iff.mp h
              obtain ⟨⟨t, t1, t2, t3⟩, ht, h⟩ := h
              dsimp only at h
              split at h
              · exact ((fail_kb hq).trans (take_kb ht)).trans (ih j (by omega) _ _ _ _ _ _ _ _ _ h)
              · simp at h
            · replace h := Option.bind_eq_some_iff.mp h
              obtain ⟨⟨t, t1, t2, t3⟩, ht, h⟩ := h
              dsimp only at h
              split at h
              · exact (take_kb ht).trans (ih j (by omega) _ _ _ _ _ _ _ _ _ h)
              · simp at h
        rw [say_parser_names.j1] at h
        split at h
        · split at h
          · replace h := Option.bind_eq_some_iff.mp h
            obtain ⟨⟨m1, m2, m3⟩, hm, h⟩ := h
            dsimp only at h
            exact (mark_kb hm).trans (j2 _ _ _ h)
          · exact j2 _ _ _ h
        · replace h := Option.bind_eq_some_iff.mp h
          obtain ⟨⟨m1, m2, m3⟩, hm, h⟩ := h
          simp only [Option.some.injEq, Prod.mk.injEq] at h
          obtain ⟨_, _, rfl, rfl⟩ := h
          exact mark_kb hm
    cases k with
    | zero => simp [say_parser_names.l0] at h
    | succ k =>
      rw [say_parser_names.l0] at h
      split at h
      · replace h := Option.bind_eq_some_iff.mp h
        obtain ⟨⟨pk, p1, p2, p3⟩, hp, h⟩ := h
        obtain ⟨rfl, rfl, rfl⟩ := peek_kb hp
        exact j1 k _ _ _ _ (by omega) h
      · exact j1 k _ _ _ _ (by omega) h
theorem field_kb {s0 : List S28} {k : Nat} {f : S87} {n e b n' e' b' : Int} (h : fieldP k s0 n e b = some (f, n', e', b')) : Kb s0 e b e' b' := by
  unfold fieldP at h
  replace h := Option.bind_eq_some_iff.mp h
  obtain ⟨⟨t, t1, t2, t3⟩, ht, h⟩ := h
  replace h := Option.bind_eq_some_iff.mp h
  obtain ⟨⟨m1, m2, m3⟩, hm, h⟩ := h
  replace h := Option.bind_eq_some_iff.mp h
  obtain ⟨⟨v0, v1, v2, v3, v4, v5, v6, v7⟩, hv, h⟩ := h
  dsimp only at hm hv
  simp only [Option.some.injEq, Prod.mk.injEq] at h
  obtain ⟨_, _, rfl, rfl⟩ := h
  exact ((take_kb ht).trans (mark_kb hm)).trans (value_kb hv)
theorem paper_kb {s0 : List S28} : ∀ (k : Nat) (acc r : List S87) (n e b n' e' b' : Int), paperL k s0 acc n e b = some (r, n', e', b') → Kb s0 e b e' b' := by
  intro k
  induction k with
  | zero => intro acc r n e b n' e' b' h; simp [paperL] at h
  | succ k ih =>
    intro acc r n e b n' e' b' h
    rw [paperL] at h
    replace h := Option.bind_eq_some_iff.mp h
    obtain ⟨⟨more, q1, q2, q3⟩, hq, h⟩ := h
    dsimp only at h
    have hqq : q2 = e ∧ q3 = b := by
      unfold moreP at hq
      split at hq
      · replace hq := Option.bind_eq_some_iff.mp hq
        obtain ⟨⟨pk, p1, p2, p3⟩, hp, hq⟩ := hq
        simp only [Option.some.injEq, Prod.mk.injEq] at hq
        obtain ⟨_, rfl, rfl, rfl⟩ := hq
        exact (peek_kb hp).2
      · simp only [Option.some.injEq, Prod.mk.injEq] at hq
        exact ⟨hq.2.2.1.symm, hq.2.2.2.symm⟩
    obtain ⟨rfl, rfl⟩ := hqq
    split at h
    · split at h
      · replace h := Option.bind_eq_some_iff.mp h
        obtain ⟨⟨a1, a2, a3⟩, ha, h⟩ := h
        dsimp only at h
        replace h := Option.bind_eq_some_iff.mp h
        obtain ⟨⟨b1, b2, b3⟩, hb, h⟩ := h
        dsimp only at h hb
        replace h := Option.bind_eq_some_iff.mp h
        obtain ⟨⟨f, f1, f2, f3⟩, hf, h⟩ := h
        dsimp only at h hf
        have k1 : Kb s0 q2 q3 a2 a3 := by
          unfold commaP at ha
          split at ha
          · exact mark_kb ha
          · simp only [Option.some.injEq, Prod.mk.injEq] at ha
            obtain ⟨_, rfl, rfl⟩ := ha
            exact Kb.refl _ _ _
        have k2 : Kb s0 a2 a3 b2 b3 := by
          unfold manyP at hb
          split at hb
          · exact fail_kb hb
          · simp only [Option.some.injEq, Prod.mk.injEq] at hb
            obtain ⟨_, rfl, rfl⟩ := hb
            exact Kb.refl _ _ _
        exact ((k1.trans k2).trans (field_kb hf)).trans (ih _ _ _ _ _ _ _ _ h)
      · simp at h
    · replace h := Option.bind_eq_some_iff.mp h
      obtain ⟨⟨m1, m2, m3⟩, hm, h⟩ := h
      simp only [Option.some.injEq, Prod.mk.injEq] at h
      obtain ⟨_, _, rfl, rfl⟩ := h
      exact mark_kb hm
theorem arg_kb {s0 : List S28} {k : Nat} {y y' : S45} {a n e b n' e' b' : Int} (h : argF k s0 n e b y a = some (y', n', e', b')) : Kb s0 e b e' b' := by
  unfold argF at h
  repeat' split at h
  all_goals first
    | (simp at h; done)
    | (replace h := Option.bind_eq_some_iff.mp h
       obtain ⟨⟨q, q1, q2, q3⟩, hq, h⟩ := h
       simp only [Option.some.injEq, Prod.mk.injEq] at h
       obtain ⟨_, _, rfl, rfl⟩ := h
       first | exact take_kb hq | exact number_kb hq | exact count_kb hq)
    | (replace h := Option.bind_eq_some_iff.mp h
       obtain ⟨⟨q, q1, q2, q3⟩, hq, h⟩ := h
       simp only [Option.some.injEq, Prod.mk.injEq] at h
       obtain ⟨_, _, rfl, rfl⟩ := h
       unfold say_parser_names.f at hq
       replace hq := Option.bind_eq_some_iff.mp hq
       obtain ⟨⟨m1, m2, m3⟩, hm, hq⟩ := hq
       exact (mark_kb hm).trans (names_kb _ _ _ _ _ _ _ _ _ _ hq))
    | (replace h := Option.bind_eq_some_iff.mp h
       obtain ⟨⟨i, c, l, q1, q2, q3⟩, hq, h⟩ := h
       simp only [Option.some.injEq, Prod.mk.injEq] at h
       obtain ⟨_, _, rfl, rfl⟩ := h
       unfold say_parser_paper.f at hq
       replace hq := Option.bind_eq_some_iff.mp hq
       obtain ⟨⟨t, t1, t2, t3⟩, ht, hq⟩ := hq
       replace hq := Option.bind_eq_some_iff.mp hq
       obtain ⟨⟨z, z1, z2, z3⟩, hz, hq⟩ := hq
       replace hq := Option.bind_eq_some_iff.mp hq
       obtain ⟨⟨m1, m2, m3⟩, hm, hq⟩ := hq
       replace hq := Option.bind_eq_some_iff.mp hq
       obtain ⟨⟨r, r1, r2, r3⟩, hr, hq⟩ := hq
       simp only [Option.some.injEq, Prod.mk.injEq] at hq
       obtain ⟨_, _, _, _, rfl, rfl⟩ := hq
       exact (((take_kb ht).trans (number_kb hz)).trans (mark_kb hm)).trans (paper_kb _ _ _ _ _ _ _ _ _ hr))
theorem args_kb {s0 : List S28} {k : Nat} : ∀ (L : List Int) (y y' : S45) (n e b n' e' b' : Int), argsF k s0 L y n e b = some (y', n', e', b') → Kb s0 e b e' b'
  | [], y, y', n, e, b, n', e', b', h => by
    simp only [argsF, Option.some.injEq, Prod.mk.injEq] at h
    obtain ⟨_, _, rfl, rfl⟩ := h
    exact Kb.refl _ _ _
  | a :: L, y, y', n, e, b, n', e', b', h => by
    rw [argsF] at h
    replace h := Option.bind_eq_some_iff.mp h
    obtain ⟨⟨y1, q1, q2, q3⟩, hq, h⟩ := h
    exact (arg_kb hq).trans (args_kb L _ _ _ _ _ _ _ _ h)
theorem step_kb {s0 : List S28} {k : Nat} {y : S45} {n e b n' e' b' : Int} (h : stepF k s0 n e b = some (y, n', e', b')) : Kb s0 e b e' b' := by
  unfold stepF at h
  replace h := Option.bind_eq_some_iff.mp h
  obtain ⟨⟨t, t1, t2, t3⟩, ht, h⟩ := h
  dsimp only at h
  cases hk : kindOf t.data.toList with
  | none =>
    rw [hk] at h
    replace h := Option.bind_eq_some_iff.mp h
    obtain ⟨⟨m1, m2, m3⟩, hm, h⟩ := h
    simp only [Option.some.injEq, Prod.mk.injEq] at h
    obtain ⟨_, _, rfl, rfl⟩ := h
    exact (take_kb ht).trans (fail_kb hm)
  | some i =>
    rw [hk] at h
    dsimp only at h
    replace h := Option.bind_eq_some_iff.mp h
    obtain ⟨l, hl, h⟩ := h
    replace h := Option.bind_eq_some_iff.mp h
    obtain ⟨⟨y1, q1, q2, q3⟩, hq, h⟩ := h
    replace h := Option.bind_eq_some_iff.mp h
    obtain ⟨⟨m1, m2, m3⟩, hm, h⟩ := h
    simp only [Option.some.injEq, Prod.mk.injEq] at h
    obtain ⟨_, _, rfl, rfl⟩ := h
    exact ((take_kb ht).trans (args_kb _ _ _ _ _ _ _ _ _ hq)).trans (mark_kb hm)
theorem script_kb {s0 : List S28} : ∀ (k : Nat) (acc r : List S45) (n e b b' : Int), scriptL k s0 acc n e b = some (r, b') → b' = b ∨ b' = e ∨ ∃ s ∈ s0, b' = s.f2
  | 0, acc, r, n, e, b, b', h => by simp [scriptL] at h
  | k + 1, acc, r, n, e, b, b', h => by
    rw [scriptL] at h
    split at h
    · split at h
      · replace h := Option.bind_eq_some_iff.mp h
        obtain ⟨⟨y, q1, q2, q3⟩, hq, h⟩ := h
        have h1 := step_kb hq
        have h2 := script_kb k _ _ _ _ _ _ h
        exact (h1.trans (e2 := q2) ⟨rfl, h2⟩).2
      · simp at h
    · simp only [Option.some.injEq, Prod.mk.injEq] at h
      exact .inl h.2.symm
theorem lexL_pos : ∀ (n : Nat) (l : List UInt8) (p : Nat), (∀ qs, lexL n l p = .ok qs → ∀ s ∈ qs, s.f2 ≤ ((p + l.length : Nat) : Int)) ∧ ∀ q, lexL n l p = .error q → q ≤ p + l.length
  | 0, l, p => ⟨fun qs h => by simp [lexL] at h; subst h; simp, fun q h => by simp [lexL] at h⟩
  | n + 1, l, p => by
    have hb := blankLen_le l false
    rw [lexL]
    split
    · exact ⟨fun qs h => by simp at h; subst h; simp, fun q h => by simp at h⟩
    · cases ht : tokL (l.drop (blankLen false l)) with
      | none =>
        refine ⟨fun qs h => by simp at h, fun q h => ?_⟩
        simp only [Except.error.injEq] at h
        omega
      | some q =>
        obtain ⟨k, t, j⟩ := q
        have hj := tokL_le _ k t j ht
        rw [List.length_drop] at hj
        obtain ⟨i1, i2⟩ := lexL_pos n (l.drop (blankLen false l + j)) (p + blankLen false l + j)
        rw [List.length_drop] at i1 i2
        dsimp only
        cases hr : lexL n (l.drop (blankLen false l + j)) (p + blankLen false l + j) with
        | error q =>
          refine ⟨fun qs h => by simp [Except.map] at h, fun q' h => ?_⟩
          simp only [Except.map, Except.error.injEq] at h
          have := i2 q hr
          omega
        | ok r =>
          refine ⟨fun qs h => ?_, fun q' h => by simp [Except.map] at h⟩
          simp only [Except.map, Except.ok.injEq] at h
          subst h
          intro s hs
          rcases List.mem_cons.1 hs with rfl | hs
          · simp only; omega
          · have := i1 r hr s hs; omega

end Go.Proofs.Ytokkjnfdfbpphaa.A
namespace Go.Proofs.Ytokkjnfdfbpphaa.A
open Go.RowKit Go.Proofs.YtokkjnfdfbpphaaW.PrintWords Go.Proofs.YtokkjnfdfbpphaaW.PrintLast Go.Proofs.YtokkjnfdfbpphaaW.PrintMore
attribute [local go_sem] max2_int min2_int max_two min_two max_three min_three max_four min_four   -- for this text's walks alone
set_option linter.unusedVariables false
set_option linter.unusedSimpArgs false

/-! the parser answers, whatever tokens it is given -/
theorem fail_tot {s0 : List S28} {n : Int} (e b : Int) (hn : 0 ≤ n) : ∃ e' b', say_parser_fail.f s0 n e b = some (n, e', b') := by
  unfold say_parser_fail.f say_parser_here.f
  repeat' split
  all_goals first
    | exact ⟨_, _, rfl⟩
    | (exfalso; omega)
theorem take_tot {s0 : List S28} (W : Wft s0) {n e : Int} (he : 0 ≤ e) (b k : Int) (hn : 0 ≤ n) : ∃ t n' e' b', say_parser_take.f s0 n e b k = some (t, n', e', b') ∧ 0 ≤ n' ∧ (b' < 0 → k = 1 → 0 < t.size) := by
  have hlen := W.len
  have key : ∃ t n' e' b', say_parser_take.f s0 n e b k = some (t, n', e', b') ∧ 0 ≤ n' := by
    obtain ⟨fe, fb, hf⟩ := fail_tot (s0 := s0) e b hn
    unfold say_parser_take.f
    rw [hf]
    by_cases hb : b ≥ 0
    · rw [if_pos hb]; exact ⟨_, _, _, _, rfl, hn⟩
    rw [if_neg hb]
    by_cases hl : n ≥ (s0.length : Int)
    · rw [if_pos hl]; exact ⟨_, _, _, _, rfl, hn⟩
    rw [if_neg hl, if_pos hn, if_pos (by omega)]
    have w1 : wrap64 (n + 1) = n + 1 := by unfold wrap64; omega
    have w2 : wrap64 (n + 1 - 1) = n := by unfold wrap64; omega
    split
    · rw [w1, w2, if_pos hn, if_pos (by omega)]; exact ⟨_, _, _, _, rfl, by omega⟩
    · exact ⟨_, _, _, _, rfl, hn⟩
  obtain ⟨t, n', e', b', h1, h2⟩ := key
  refine ⟨t, n', e', b', h1, h2, fun hb hk => ?_⟩
  obtain ⟨_, _, m, ts, _, _, _, _, hnl, _⟩ := (take_snd W he h1).2 hb
  obtain ⟨c, w, hc, _⟩ := hnl hk
  have := ba_length t
  rw [hc] at this; simp at this; omega
theorem peek_tot {s0 : List S28} {n : Int} (e b : Int) (m : ByteArray) (hn : 0 ≤ n) : ∃ r, say_parser_peek.f s0 n e b m = some (r, n, e, b) := by
  unfold say_parser_peek.f
  repeat' split
  all_goals first
    | exact ⟨_, rfl⟩
    | (exfalso; omega)
theorem mark_tot {s0 : List S28} (W : Wft s0) {n : Int} (e b : Int) (m : ByteArray) (hn : 0 ≤ n) : ∃ n' e' b', say_parser_mark.f s0 n e b m = some (n', e', b') ∧ 0 ≤ n' := by
  have hlen := W.len
  obtain ⟨r, hr⟩ := peek_tot (s0 := s0) e b m hn
  obtain ⟨fe, fb, hf⟩ := fail_tot (s0 := s0) e b hn
  unfold say_parser_mark.f
  rw [hr]
  simp only [Option.bind_some]
  cases r with
  | true =>
    have hlt : n < (s0.length : Int) := (peek_snd (m := m.data.toList) (by rw [ba_self]; exact hr)).2.2.2 rfl |>.2.2.1
    exact ⟨_, _, _, rfl, by unfold wrap64; omega⟩
  | false => rw [if_neg (by decide), hf]; exact ⟨_, _, _, rfl, hn⟩
theorem number_tot {s0 : List S28} (W : Wft s0) {n e : Int} (he : 0 ≤ e) (b : Int) (hn : 0 ≤ n) : ∃ x n' e' b', say_parser_number.f s0 n e b = some (x, n', e', b') ∧ 0 ≤ n' := by
  obtain ⟨t, t1, t2, t3, ht, h1, h2⟩ := take_tot W he b 1 hn
  unfold say_parser_number.f
  rw [ht]
  simp only [Option.bind_some]
  by_cases hb : t3 ≥ 0
  · rw [if_pos hb]; exact ⟨_, _, _, _, rfl, h1⟩
  rw [if_neg hb, if_pos (h2 (by omega) rfl)]
  cases numVal t.data.toList with
  | some v => exact ⟨_, _, _, _, rfl, h1⟩
  | none =>
    obtain ⟨fe, fb, hf⟩ := fail_tot (s0 := s0) t2 t3 hn
    simp only [hf]
    exact ⟨_, _, _, _, rfl, hn⟩
theorem count_tot {s0 : List S28} (W : Wft s0) {n e : Int} (he : 0 ≤ e) (b : Int) (hn : 0 ≤ n) (k : Nat) (hk : 1 ≤ k) : ∃ x n' e' b', say_parser_count.f k s0 n e b = some (x, n', e', b') ∧ 0 ≤ n' := by
  obtain ⟨k, rfl⟩ : ∃ m, k = m + 1 := ⟨k - 1, by omega⟩
  obtain ⟨t, t1, t2, t3, ht, h1, h2⟩ := take_tot W he b 1 hn
  have hd : ∃ d1 d2, say_digits.f t = some (d1, d2) := by
    unfold say_digits.f
    cases digitsOf t.data.toList with
    | some v => exact ⟨_, _, rfl⟩
    | none => exact ⟨_, _, rfl⟩
  obtain ⟨d1, d2, hd⟩ := hd
  obtain ⟨fe, fb, hf⟩ := fail_tot (s0 := s0) t2 t3 hn
  unfold say_parser_count.f
  rw [ht]
  simp only [Option.bind_some, hd]
  have j0 : ∀ (q : Bool), ∃ x n' e' b', say_parser_count.j0 (k + 1) n d1 d2 q s0 t1 t2 t3 = some (x, n', e', b') ∧ 0 ≤ n' := by
    intro q
    rw [say_parser_count.j0]
    cases q with
    | true =>
      rw [if_pos rfl, hf]
      cases d2
      · exact ⟨_, _, _, _, rfl, hn⟩
      · exact ⟨_, _, _, _, rfl, hn⟩
    | false =>
      rw [if_neg (by decide)]
      cases d2
      · exact ⟨_, _, _, _, rfl, h1⟩
      · exact ⟨_, _, _, _, rfl, h1⟩
  split
  · exact j0 _
  · exact j0 _
theorem nibble_tot (c : UInt8) : ∃ d, say_nibble.f (c.toNat : Int) = some d := by
  have := u8_all (p := fun c => (say_nibble.f (c.toNat : Int)).isSome = true) (by decide +kernel) c
  exact Option.isSome_iff_exists.1 this
def Some8 (o : Option (Int × Bool × Int × Int × ByteArray × Int × Int × Int)) : Prop := ∃ v0 v1 v2 v3 v4 n' e' b', o = some (v0, v1, v2, v3, v4, n', e', b') ∧ 0 ≤ n'
theorem float_tot {s0 : List S28} (W : Wft s0) {at_ : Int} (hat : 0 ≤ at_) (t : ByteArray) : ∀ (i k j : Nat) (n e b acc : Int), 0 ≤ n → 16 ≤ j + i → i < k → j ≤ t.size → (0 < j → t.size = 16) → Some8 (say_parser_float.l0 k at_ t (t.size : Int) (j : Int) s0 n e b 3 false 0 acc ⟨#[]⟩) := by
  intro i
  induction i with
  | zero =>
    intro k j n e b acc hn hji hk hj h16
    obtain ⟨k, rfl⟩ : ∃ m, k = m + 1 := ⟨k - 1, by omega⟩
    have := h16 (by omega)
    rw [say_parser_float.l0, if_neg (by omega), if_neg (by
      intro h0
      have h1 : t.toList.length = t.size := by rw [Lib.toList_data]; exact ba_length t
      rw [h0] at h1; simp at h1; omega)]
    obtain ⟨m1, m2, m3, hm, h1⟩ := mark_tot W e b ⟨#[41]⟩ hn
    rw [hm]
    exact ⟨_, _, _, _, _, _, _, _, rfl, h1⟩
  | succ i ih =>
    intro k j n e b acc hn hji hk hj h16
    obtain ⟨k, rfl⟩ : ∃ m, k = m + 1 := ⟨k - 1, by omega⟩
    obtain ⟨fe, fb, hf⟩ := fail_tot (s0 := s0) e b hat
    rw [say_parser_float.l0]
    by_cases hlt : (j : Int) < (t.size : Int)
    · rw [if_pos hlt, if_pos (by omega), if_pos hlt]
      have hbt : ∃ c : UInt8, bt t (j : Int) = (c.toNat : Int) := by
        unfold bt; rw [dif_pos (by simp; omega)]; exact ⟨_, rfl⟩
      obtain ⟨c, hc⟩ := hbt
      obtain ⟨d, hd⟩ := nibble_tot c
      rw [hc, hd]
      simp only [Option.bind_some]
      split
      · rw [hf]; exact ⟨_, _, _, _, _, _, _, _, rfl, hat⟩
      · split
        · rename_i hsz
          rw [wrap_small j (by omega)]
          exact ih k (j + 1) n e b _ hn (by omega) (by omega) (by omega) (fun _ => by omega)
        · rw [hf]; exact ⟨_, _, _, _, _, _, _, _, rfl, hat⟩
    · rw [if_neg hlt]
      split
      · obtain ⟨m1, m2, m3, hm, h1⟩ := mark_tot W fe fb ⟨#[41]⟩ hat
        rw [hf]; simp only [Option.bind_some]; rw [hm]
        exact ⟨_, _, _, _, _, _, _, _, rfl, h1⟩
      · obtain ⟨m1, m2, m3, hm, h1⟩ := mark_tot W e b ⟨#[41]⟩ hn
        rw [hm]
        exact ⟨_, _, _, _, _, _, _, _, rfl, h1⟩
theorem value_tot {s0 : List S28} (W : Wft s0) {n e : Int} (he : 0 ≤ e) (b : Int) (hn : 0 ≤ n) (k : Nat) (hk : 40 ≤ k) : Some8 (say_parser_value.f k s0 n e b) := by
  have hlen := W.len
  obtain ⟨fe, fb, hf⟩ := fail_tot (s0 := s0) e b hn
  unfold say_parser_value.f
  rw [hf]
  by_cases hb : b ≥ 0
  · rw [if_pos hb]; exact ⟨_, _, _, _, _, _, _, _, rfl, hn⟩
  rw [if_neg hb]
  by_cases hl : n ≥ (s0.length : Int)
  · rw [if_pos hl]; exact ⟨_, _, _, _, _, _, _, _, rfl, hn⟩
  have w1 : wrap64 (n + 1) = n + 1 := by unfold wrap64; omega
  rw [if_neg hl, if_pos hn]
  split
  · obtain ⟨x, m1, m2, m3, hm, h1⟩ := number_tot W he b hn
    rw [hm]; exact ⟨_, _, _, _, _, _, _, _, rfl, h1⟩
  split
  · rw [w1]; exact ⟨_, _, _, _, _, _, _, _, rfl, by omega⟩
  split
  · generalize (rd_T28 s0 n).f1 = t
    obtain ⟨k, rfl⟩ : ∃ m, k = m + 1 := ⟨k - 1, by omega⟩
    have j0 : ∀ q, Some8 (say_parser_word.j0 (k + 1) t t q s0 n e b) := by
      intro q
      rw [say_parser_word.j0]
      split
      · rw [w1]; exact ⟨_, _, _, _, _, _, _, _, rfl, by omega⟩
      split
      · have hfl : Some8 (say_parser_float.f k s0 (wrap64 (n + 1)) e b) := by
          rw [w1]
          unfold say_parser_float.f
          obtain ⟨m1, m2, m3, hm, h1⟩ := mark_tot W e b ⟨#[40]⟩ (show 0 ≤ n + 1 by omega)
          have hme := (mark_snd (m := [40]) W he hm).1
          obtain ⟨u, u1, u2, u3, hu, h2, _⟩ := take_tot W (show 0 ≤ m2 by rw [hme]; exact he) m3 2 h1
          rw [hm]; simp only [Option.bind_some]; rw [hu]; simp only [Option.bind_some]
          split
          · exact ⟨_, _, _, _, _, _, _, _, rfl, h2⟩
          · exact float_tot W h1 u 16 k 0 u1 u2 u3 0 h2 (by omega) (by omega) (by omega) (fun h => absurd h (Nat.lt_irrefl 0))
        obtain ⟨v0, v1, v2, v3, v4, n', e', b', hv, h3⟩ := hfl
        rw [hv]
        exact ⟨_, _, _, _, _, _, _, _, rfl, h3⟩
      · rw [hf]; exact ⟨_, _, _, _, _, _, _, _, rfl, hn⟩
    unfold say_parser_word.f
    split
    · rw [w1]; exact ⟨_, _, _, _, _, _, _, _, rfl, by omega⟩
    split
    · exact j0 _
    · exact j0 _
  · exact ⟨_, _, _, _, _, _, _, _, rfl, hn⟩
theorem names_bad {s0 : List S28} (W : Wft s0) (acc : List ByteArray) (c n e b : Int) (hn : 0 ≤ n) (hb : 0 ≤ b) (k : Nat) (hk : 2 ≤ k) : ∃ r n' e' b', say_parser_names.l0 k acc c s0 n e b = some (r, n', e', b') ∧ 0 ≤ n' := by
  obtain ⟨k, rfl⟩ : ∃ m, k = m + 2 := ⟨k - 2, by omega⟩
  obtain ⟨m1, m2, m3, hm, h1⟩ := mark_tot W e b ⟨#[93]⟩ hn
  rw [say_parser_names.l0, if_neg (by omega), say_parser_names.j1, if_neg (by decide), hm]
  exact ⟨_, _, _, _, rfl, h1⟩
theorem take_bad {s0 : List S28} {n e b k : Int} (hb : 0 ≤ b) : say_parser_take.f s0 n e b k = some (⟨#[]⟩, n, e, b) := by unfold say_parser_take.f; rw [if_pos hb]
theorem names_tot {s0 : List S28} (W : Wft s0) : ∀ (d k : Nat) (acc : List ByteArray) (n e b : Int), 0 ≤ n → 0 ≤ e → acc.length + d = 100 → 3 * d + 8 ≤ k → ∃ r n' e' b', say_parser_names.l0 k acc (acc.length : Int) s0 n e b = some (r, n', e', b') ∧ 0 ≤ n' := by
  intro d
  induction d with
  | zero =>
    intro k acc n e b hn he hd hk
    by_cases hb : 0 ≤ b
    · exact names_bad W acc _ n e b hn hb k (by omega)
    obtain ⟨k, rfl⟩ : ∃ m, k = m + 3 := ⟨k - 3, by omega⟩
    obtain ⟨pk, hp⟩ := peek_tot (s0 := s0) e b ⟨#[93]⟩ hn
    rw [say_parser_names.l0, if_pos (by omega), hp]
    simp only [Option.bind_some]
    cases pk with
    | true =>
      obtain ⟨m1, m2, m3, hm, h1⟩ := mark_tot W e b ⟨#[93]⟩ hn
      rw [say_parser_names.j1, if_neg (by decide), hm]
      exact ⟨_, _, _, _, rfl, h1⟩
    | false =>
      obtain ⟨m1, m2, m3, hm, h1⟩ := mark_tot W e b ⟨#[44]⟩ hn
      have hme := (mark_snd (m := [44]) W he hm).1
      rw [say_parser_names.j1, if_pos (by decide), if_pos (by omega), hm]
      simp only [Option.bind_some]
      obtain ⟨fe, fb, hf⟩ := fail_tot (s0 := s0) m2 m3 h1
      have hfb := (fail_snd W (show 0 ≤ m2 by rw [hme]; exact he) hf).2.2
      rw [say_parser_names.j2, if_pos (by omega), hf]
      simp only [Option.bind_some]
      rw [take_bad hfb]
      simp only [Option.bind_some]
      rw [if_pos (by omega)]
      exact names_bad W _ _ _ _ _ h1 hfb k (by omega)
  | succ d ih =>
    intro k acc n e b hn he hd hk
    by_cases hb : 0 ≤ b
    · exact names_bad W acc _ n e b hn hb k (by omega)
    obtain ⟨k, rfl⟩ : ∃ m, k = m + 3 := ⟨k - 3, by omega⟩
    obtain ⟨pk, hp⟩ := peek_tot (s0 := s0) e b ⟨#[93]⟩ hn
    rw [say_parser_names.l0, if_pos (by omega), hp]
    simp only [Option.bind_some]
    cases pk with
    | true =>
      obtain ⟨m1, m2, m3, hm, h1⟩ := mark_tot W e b ⟨#[93]⟩ hn
      rw [say_parser_names.j1, if_neg (by decide), hm]
      exact ⟨_, _, _, _, rfl, h1⟩
    | false =>
      have j2 : ∀ (n1 e1 b1 : Int), 0 ≤ n1 → 0 ≤ e1 → ∃ r n' e' b', say_parser_names.j2 (k + 1) acc (acc.length : Int) s0 n1 e1 b1 = some (r, n', e', b') ∧ 0 ≤ n' := by
        intro n1 e1 b1 hn1 he1
        obtain ⟨u, u1, u2, u3, hu, h2, _⟩ := take_tot W he1 b1 2 hn1
        have hue := (take_snd W he1 hu).1
        rw [say_parser_names.j2, if_neg (by omega), hu]
        simp only [Option.bind_some]
        rw [if_pos (by omega), show wrap64 ((acc.length : Int) + 1) = ((acc ++ [u]).length : Int) from by unfold wrap64; simp; omega]
        exact ih k (acc ++ [u]) u1 u2 u3 h2 (by rw [hue]; exact he1) (by simp; omega) (by omega)
      rw [say_parser_names.j1, if_pos (by decide)]
      split
      · obtain ⟨m1, m2, m3, hm, h1⟩ := mark_tot W e b ⟨#[44]⟩ hn
        have hme := (mark_snd (m := [44]) W he hm).1
        rw [hm]
        simp only [Option.bind_some]
        exact j2 m1 m2 m3 h1 (by rw [hme]; exact he)
      · exact j2 n e b hn he
theorem field_tot {s0 : List S28} (W : Wft s0) {n e : Int} (he : 0 ≤ e) (b : Int) (hn : 0 ≤ n) (k : Nat) (hk : 40 ≤ k) : ∃ f n' e' b', fieldP k s0 n e b = some (f, n', e', b') ∧ 0 ≤ n' := by
  obtain ⟨u, u1, u2, u3, hu, h1, _⟩ := take_tot W he b 2 hn
  have hue := (take_snd W he hu).1
  obtain ⟨m1, m2, m3, hm, h2⟩ := mark_tot W u2 u3 ⟨#[61]⟩ h1
  have hme := (mark_snd (m := [61]) W (show 0 ≤ u2 by rw [hue]; exact he) hm).1
  obtain ⟨v0, v1, v2, v3, v4, n', e', b', hv, h3⟩ := value_tot W (show 0 ≤ m2 by rw [hme, hue]; exact he) m3 h2 k hk
  unfold fieldP
  rw [hu]; simp only [Option.bind_some]; rw [hm]; simp only [Option.bind_some]; rw [hv]
  exact ⟨_, _, _, _, rfl, h3⟩
theorem paper_bad {s0 : List S28} (W : Wft s0) (acc : List S87) (n e b : Int) (hn : 0 ≤ n) (hb : 0 ≤ b) (k : Nat) (hk : 1 ≤ k) : ∃ r n' e' b', paperL k s0 acc n e b = some (r, n', e', b') ∧ 0 ≤ n' := by
  obtain ⟨k, rfl⟩ : ∃ m, k = m + 1 := ⟨k - 1, by omega⟩
  obtain ⟨m1, m2, m3, hm, h1⟩ := mark_tot W e b ⟨#[41]⟩ hn
  rw [paperL, moreP, if_neg (by omega)]
  simp only [Option.bind_some]
  rw [if_neg (by decide), hm]
  exact ⟨_, _, _, _, rfl, h1⟩
theorem paper_tot {s0 : List S28} (W : Wft s0) : ∀ (d k : Nat) (acc : List S87) (n e b : Int), 0 ≤ n → 0 ≤ e → acc.length + d = 100 → d + 60 ≤ k → ∃ r n' e' b', paperL k s0 acc n e b = some (r, n', e', b') ∧ 0 ≤ n' := by
  intro d
  induction d with
  | zero =>
    intro k acc n e b hn he hd hk
    by_cases hb : 0 ≤ b
    · exact paper_bad W acc n e b hn hb k (by omega)
    obtain ⟨k, rfl⟩ : ∃ m, k = m + 1 := ⟨k - 1, by omega⟩
    obtain ⟨pk, hp⟩ := peek_tot (s0 := s0) e b ⟨#[41]⟩ hn
    rw [paperL, moreP, if_pos (by omega), hp]
    simp only [Option.bind_some]
    cases pk with
    | true =>
      obtain ⟨m1, m2, m3, hm, h1⟩ := mark_tot W e b ⟨#[41]⟩ hn
      rw [if_neg (by decide), hm]
      exact ⟨_, _, _, _, rfl, h1⟩
    | false =>
      obtain ⟨m1, m2, m3, hm, h1⟩ := mark_tot W e b ⟨#[44]⟩ hn
      have hme := (mark_snd (m := [44]) W he hm).1
      rw [if_pos (by decide), if_pos (by omega), commaP, if_pos (by omega), hm]
      simp only [Option.bind_some]
      obtain ⟨fe, fb, hf⟩ := fail_tot (s0 := s0) m2 m3 h1
      obtain ⟨hfe, _, hfb⟩ := fail_snd W (show 0 ≤ m2 by rw [hme]; exact he) hf
      rw [manyP, if_pos (by omega), hf]
      simp only [Option.bind_some]
      obtain ⟨f, f1, f2, f3, hff, h2⟩ := field_tot W (show 0 ≤ fe by rw [hfe, hme]; exact he) fb h1 k (by omega)
      have hfs := field_snd W (show 0 ≤ fe by rw [hfe, hme]; exact he) hff
      rw [hff]
      simp only [Option.bind_some]
      have hb3 : 0 ≤ f3 := by
        by_cases h : f3 < 0
        · have := (hfs.2 h).1; omega
        · omega
      exact paper_bad W _ _ _ _ h2 hb3 k (by omega)
  | succ d ih =>
    intro k acc n e b hn he hd hk
    by_cases hb : 0 ≤ b
    · exact paper_bad W acc n e b hn hb k (by omega)
    obtain ⟨k, rfl⟩ : ∃ m, k = m + 1 := ⟨k - 1, by omega⟩
    obtain ⟨pk, hp⟩ := peek_tot (s0 := s0) e b ⟨#[41]⟩ hn
    rw [paperL, moreP, if_pos (by omega), hp]
    simp only [Option.bind_some]
    cases pk with
    | true =>
      obtain ⟨m1, m2, m3, hm, h1⟩ := mark_tot W e b ⟨#[41]⟩ hn
      rw [if_neg (by decide), hm]
      exact ⟨_, _, _, _, rfl, h1⟩
    | false =>
      rw [if_pos (by decide), if_pos (by omega)]
      have hcm : ∃ m1 m2 m3, commaP s0 (acc.length : Int) n e b = some (m1, m2, m3) ∧ 0 ≤ m1 ∧ m2 = e := by
        unfold commaP
        split
        · obtain ⟨m1, m2, m3, hm, h1⟩ := mark_tot W e b ⟨#[44]⟩ hn
          exact ⟨m1, m2, m3, hm, h1, (mark_snd (m := [44]) W he hm).1⟩
        · exact ⟨_, _, _, rfl, hn, rfl⟩
      obtain ⟨m1, m2, m3, hm, h1, hme⟩ := hcm
      rw [hm]
      simp only [Option.bind_some]
      rw [manyP, if_neg (by omega)]
      simp only [Option.bind_some]
      obtain ⟨f, f1, f2, f3, hff, h2⟩ := field_tot W (show 0 ≤ m2 by rw [hme]; exact he) m3 h1 k (by omega)
      have hfe := (field_snd W (show 0 ≤ m2 by rw [hme]; exact he) hff).1
      rw [hff]
      simp only [Option.bind_some]
      exact ih k (acc ++ [f]) f1 f2 f3 h2 (by rw [hfe, hme]; exact he) (by simp; omega) (by omega)
theorem arg_tot {s0 : List S28} (W : Wft s0) {n e : Int} (he : 0 ≤ e) (b : Int) (hn : 0 ≤ n) (k : Nat) (hk : 400 ≤ k) (y : S45) (a : Int) (h0 : 0 ≤ a) (h8 : a ≤ 8) : ∃ y' n' e' b', argF k s0 n e b y a = some (y', n', e', b') ∧ 0 ≤ n' := by
  have hc : a = 0 ∨ a = 1 ∨ a = 2 ∨ a = 3 ∨ a = 4 ∨ a = 5 ∨ a = 6 ∨ a = 7 ∨ a = 8 := by omega
  obtain ⟨t, t1, t2, t3, ht, hh1, _⟩ := take_tot W he b 2 hn
  obtain ⟨x, x1, x2, x3, hx, hh2⟩ := number_tot W he b hn
  obtain ⟨c, c1, c2, c3, hcn, hh3⟩ := count_tot W he b hn k (by omega)
  rcases hc with rfl | rfl | rfl | rfl | rfl | rfl | rfl | rfl | rfl
  · exact ⟨_, _, _, _, by show (say_parser_take.f s0 n e b 2).bind _ = _; rw [ht]; rfl, hh1⟩
  · exact ⟨_, _, _, _, by show (say_parser_take.f s0 n e b 2).bind _ = _; rw [ht]; rfl, hh1⟩
  · have hnm : ∃ r n' e' b', say_parser_names.f k s0 n e b = some (r, n', e', b') ∧ 0 ≤ n' := by
      unfold say_parser_names.f
      obtain ⟨m1, m2, m3, hm, h1⟩ := mark_tot W e b ⟨#[91]⟩ hn
      have hme := (mark_snd (m := [91]) W he hm).1
      rw [hm]
      simp only [Option.bind_some]
      exact names_tot W 100 k [] m1 m2 m3 h1 (by rw [hme]; exact he) rfl (by omega)
    obtain ⟨r, r1, r2, r3, hr, hh⟩ := hnm
    exact ⟨_, _, _, _, by show (say_parser_names.f k s0 n e b).bind _ = _; rw [hr]; rfl, hh⟩
  · exact ⟨_, _, _, _, by show (say_parser_number.f s0 n e b).bind _ = _; rw [hx]; rfl, hh2⟩
  · exact ⟨_, _, _, _, by show (say_parser_number.f s0 n e b).bind _ = _; rw [hx]; rfl, hh2⟩
  · exact ⟨_, _, _, _, by show (say_parser_count.f k s0 n e b).bind _ = _; rw [hcn]; rfl, hh3⟩
  · exact ⟨_, _, _, _, by show (say_parser_number.f s0 n e b).bind _ = _; rw [hx]; rfl, hh2⟩
  · exact ⟨_, _, _, _, by show (say_parser_take.f s0 n e b 2).bind _ = _; rw [ht]; rfl, hh1⟩
  · have hpp : ∃ id c l n' e' b', say_parser_paper.f k s0 n e b = some (id, c, l, n', e', b') ∧ 0 ≤ n' := by
      have hte := (take_snd W he ht).1
      obtain ⟨z, z1, z2, z3, hz, g1⟩ := number_tot W (show 0 ≤ t2 by rw [hte]; exact he) t3 hh1
      have hze := (number_snd W (show 0 ≤ t2 by rw [hte]; exact he) hz).1
      obtain ⟨m1, m2, m3, hm, g2⟩ := mark_tot W z2 z3 ⟨#[40]⟩ g1
      have hme := (mark_snd (m := [40]) W (show 0 ≤ z2 by rw [hze, hte]; exact he) hm).1
      obtain ⟨r, r1, r2, r3, hr, g3⟩ := paper_tot W 100 k [] m1 m2 m3 g2 (by rw [hme, hze, hte]; exact he) rfl (by omega)
      unfold say_parser_paper.f
      rw [ht]; simp only [Option.bind_some]; rw [hz]; simp only [Option.bind_some]; rw [hm]; simp only [Option.bind_some]; rw [hr]
      exact ⟨_, _, _, _, _, _, rfl, g3⟩
    obtain ⟨i, c, l, r1, r2, r3, hr, hh⟩ := hpp
    exact ⟨_, _, _, _, by show (say_parser_paper.f k s0 n e b).bind _ = _; rw [hr]; rfl, hh⟩
theorem args_tot {s0 : List S28} (W : Wft s0) (k : Nat) (hk : 400 ≤ k) : ∀ (L : List Int) (y : S45) (n e b : Int), 0 ≤ e → 0 ≤ n → (∀ a ∈ L, 0 ≤ a ∧ a ≤ 8) → ∃ y' n' e' b', argsF k s0 L y n e b = some (y', n', e', b') ∧ 0 ≤ n'
  | [], y, n, e, b, _, hn, _ => ⟨_, _, _, _, rfl, hn⟩
  | a :: L, y, n, e, b, he, hn, ha => by
    obtain ⟨y1, q1, q2, q3, hq, h1⟩ := arg_tot W he b hn k hk y a (ha a (by simp)).1 (ha a (by simp)).2
    have hqe : q2 = e := (args_keep W [a] y y1 n e b q1 q2 q3 he (by rw [argsF, hq]; rfl)).1
    obtain ⟨y2, r1, r2, r3, hr, h2⟩ := args_tot W k hk L y1 q1 q2 q3 (by rw [hqe]; exact he) h1 (fun c hc => ha c (by simp [hc]))
    exact ⟨y2, r1, r2, r3, by rw [argsF, hq]; exact hr, h2⟩
theorem step_tot {s0 : List S28} (W : Wft s0) {n e : Int} (he : 0 ≤ e) (b : Int) (hn : 0 ≤ n) (k : Nat) (hk : 400 ≤ k) : ∃ y n' e' b', stepF k s0 n e b = some (y, n', e', b') ∧ 0 ≤ n' := by
  obtain ⟨t, t1, t2, t3, ht, h1, _⟩ := take_tot W he b 0 hn
  have hte := (take_snd W he ht).1
  unfold stepF
  rw [ht]
  simp only [Option.bind_some]
  cases hko : kindOf t.data.toList with
  | none =>
    obtain ⟨fe, fb, hf⟩ := fail_tot (s0 := s0) t2 t3 hn
    simp only [hf]
    exact ⟨_, _, _, _, rfl, hn⟩
  | some i =>
    obtain ⟨i1, i2, _⟩ := kindOf_range _ i hko
    simp only
    rw [rounds_le (fun k => say_args.f k ((i : Nat) : Int)) (fun k => say_args.mono _ k) (show 5 ≤ k by omega) (args_some i i1 i2)]
    simp only [Option.bind_some]
    obtain ⟨y, q1, q2, q3, hq, h2⟩ := args_tot W k hk (argsOf i) { z45 with f0 := (i : Int) } t1 t2 t3 (by rw [hte]; exact he) h1 (argsOf_small i).2
    have hqe := (args_keep W (argsOf i) _ y t1 t2 t3 q1 q2 q3 (by rw [hte]; exact he) hq).1
    rw [hq]
    simp only [Option.bind_some]
    obtain ⟨m1, m2, m3, hm, h3⟩ := mark_tot W q2 q3 ⟨#[59]⟩ h2
    rw [hm]
    exact ⟨_, _, _, _, rfl, h3⟩
theorem script_tot {s0 : List S28} (W : Wft s0) : ∀ (d k : Nat) (acc : List S45) (n e b : Int), 0 ≤ e → 0 ≤ n → (s0.length : Int) ≤ n + d → d + 402 ≤ k → acc.length + d ≤ 100000000 → ∃ r b', scriptL k s0 acc n e b = some (r, b') := by
  intro d
  induction d with
  | zero =>
    intro k acc n e b he hn hd hk ha
    obtain ⟨k, rfl⟩ : ∃ m, k = m + 1 := ⟨k - 1, by omega⟩
    rw [scriptL, if_neg (by omega)]; exact ⟨_, _, rfl⟩
  | succ d ih =>
    intro k acc n e b he hn hd hk ha
    obtain ⟨k, rfl⟩ : ∃ m, k = m + 1 := ⟨k - 1, by omega⟩
    by_cases hc : b < 0 ∧ n < (s0.length : Int)
    · obtain ⟨y, q1, q2, q3, hq, h1⟩ := step_tot W he b hn k (by omega)
      have hs := step_snd W he hq
      rw [scriptL, if_pos hc, if_pos (by omega), hq]
      simp only [Option.bind_some]
      by_cases hq3 : q3 < 0
      · obtain ⟨_, _, m, ts, hm, _, hn1, _, _, _, hlen⟩ := hs.2 hq3
        exact ih k _ q1 q2 q3 (by rw [hs.1]; exact he) h1 (by omega) (by omega) (by simp; omega)
      · obtain ⟨k, rfl⟩ : ∃ m, k = m + 1 := ⟨k - 1, by omega⟩
        rw [scriptL, if_neg (by omega)]; exact ⟨_, _, rfl⟩
    · rw [scriptL, if_neg hc]; exact ⟨_, _, rfl⟩

end Go.Proofs.Ytokkjnfdfbpphaa.A
namespace Go.Proofs.Ytokkjnfdfbpphaa.A
open Go.RowKit Go.Proofs.YtokkjnfdfbpphaaW.PrintWords Go.Proofs.YtokkjnfdfbpphaaW.PrintLast Go.Proofs.YtokkjnfdfbpphaaW.PrintMore
attribute [local go_sem] max2_int min2_int max_two min_two max_three min_three max_four min_four   -- for this text's walks alone
set_option linter.unusedVariables false
set_option linter.unusedSimpArgs false

theorem unq_cost : ∀ (n : Nat) (l t : List UInt8) (k : Nat), l.length ≤ n → unq l = some (t, k) → (quoteBody t).length + 1 ≤ k := by
  intro n
  induction n with
  | zero => intro l t k hl h; cases l with
    | nil => simp [unq] at h
    | cons => simp at hl
  | succ n ih =>
    intro l t k hl h
    cases l with
    | nil => simp [unq] at h
    | cons c l =>
      rw [unq_cons] at h
      split at h
      · simp at h; rw [h.1, ← h.2]; simp [quoteBody]
      · split at h
        · match l, h with
          | x :: a :: b :: l', h =>
            dsimp only at h
            split at h
            · split at h
              · split at h
                · simp at h
                · cases hu : unq l' with
                  | none => rw [hu] at h; simp at h
                  | some p =>
                    rw [hu] at h; simp at h
                    have := ih l' p.1 p.2 (by simp at hl; omega) (by rw [hu])
                    rw [← h.1, ← h.2]
                    rename_i v _ _
                    have := quoteByte_le v
                    simp only [quoteBody, List.flatMap_cons, List.length_append] at *
                    omega
              · simp at h
            · simp at h
          | [], h => simp at h
          | [_], h => simp at h
          | [_, _], h => simp at h
        · split at h
          · rename_i hp
            cases hu : unq l with
            | none => rw [hu] at h; simp at h
            | some p =>
              rw [hu] at h; simp at h
              have := ih l p.1 p.2 (by simp at hl; omega) (by rw [hu])
              rw [← h.1, ← h.2]
              have : (quoteByte c).length = 1 := by unfold quoteByte; rw [if_pos hp]; rfl
              simp only [quoteBody, List.flatMap_cons, List.length_append] at *
              omega
          · simp at h
theorem tokL_cost (l : List UInt8) (k : Int) (t : List UInt8) (m : Nat) (h : tokL l = some (k, t, m)) : cost (k, t) ≤ m := by
  unfold tokL at h
  split at h
  · simp at h
  · rename_i c r
    split at h
    · simp only [Option.some.injEq, Prod.mk.injEq] at h
      obtain ⟨rfl, rfl, rfl⟩ := h
      exact Nat.le_refl _
    · split at h
      · split at h
        · simp at h
        · simp only [Option.some.injEq, Prod.mk.injEq] at h
          obtain ⟨rfl, rfl, rfl⟩ := h
          simp [cost]
      · split at h
        · cases hu : unq r with
          | none => rw [hu] at h; simp at h
          | some p =>
            rw [hu] at h
            simp only [Option.map_some, Option.some.injEq, Prod.mk.injEq] at h
            obtain ⟨rfl, rfl, rfl⟩ := h
            have := unq_cost _ r p.1 p.2 (Nat.le_refl _) (by rw [hu])
            simp only [cost, quoted, if_true, List.length_cons, List.length_append, List.length_nil]; omega
        · split at h
          · simp only [Option.some.injEq, Prod.mk.injEq] at h
            obtain ⟨rfl, rfl, rfl⟩ := h
            simp [cost]
          · simp at h
theorem lexL_cw : ∀ (n : Nat) (l : List UInt8) (p : Nat) (qs : List S28), lexL n l p = .ok qs → cw (qs.map tkOf) ≤ 23 * l.length
  | 0, l, p, qs, h => by simp [lexL] at h; subst h; simp [cw]
  | n + 1, l, p, qs, h => by
    rw [lexL] at h
    split at h
    · simp at h; subst h; simp [cw]
    · cases ht : tokL (l.drop (blankLen false l)) with
      | none => rw [ht] at h; simp at h
      | some q =>
        obtain ⟨k, t, j⟩ := q
        have hj := tokL_le _ k t j ht
        have hc := tokL_cost _ k t j ht
        rw [List.length_drop] at hj
        rw [ht] at h
        dsimp only at h
        cases hr : lexL n (l.drop (blankLen false l + j)) (p + blankLen false l + j) with
        | error e => rw [hr] at h; simp [Except.map] at h
        | ok r =>
          rw [hr] at h
          simp only [Except.map, Except.ok.injEq] at h
          subst h
          have := lexL_cw n _ _ r hr
          rw [List.length_drop] at this
          rw [List.map_cons, cw_cons]
          have e : tkOf (⟨k, ⟨t.toArray⟩, ((p + blankLen false l : Nat) : Int)⟩ : S28) = (k, t) := rfl
          rw [e]; omega
theorem cw_prefix {a b : Tks} (h : a <+: b) : cw a ≤ cw b := by
  obtain ⟨r, rfl⟩ := h
  rw [cw_append]; omega
theorem allText_lexes (l : List S45) (h : ∀ x ∈ l, Good x) : Lexes true (allText l) (l.flatMap stepToks) := by
  induction l with
  | nil => exact Lexes.nil
  | cons x l ih =>
    have e : allText (x :: l) = (printText x ++ [10]) ++ allText l := by simp [allText]
    have hx := h x (by simp)
    rw [e, List.flatMap_cons]
    exact Lexes.append (Lexes.sep (Lexes.weak (lexes_step x hx.k1 hx.k2)) 10 (by decide)) (ih (fun y hy => h y (by simp [hy]))) (.inl rfl)
set_option maxRecDepth 100000 in
theorem scripts_all (a0 : ByteArray) (w : World) : Calls Try.prog 6 #[.string a0] w fun e w' => e = .returned (.bool true) ∧ Below w.heap.size w w' := by
  obtain ⟨t, ht, hts⟩ := cut_some a0
  have haw := awake_big 70000 (by decide)
  rcases tokens_some t (by omega) with ⟨s0, hlx, htok⟩ | ⟨p, hlx, htok⟩
  · have hcnt := lexL_count _ _ _ _ hlx
    rw [ba_length] at hcnt
    have hwf := lexL_wft _ _ _ _ hlx
    have W : Wft s0 := ⟨by omega, fun s hs => (hwf s hs).1, fun s hs => (hwf s hs).2.1, fun s hs => by have := (hwf s hs).2.2; rw [ba_length] at this; omega⟩
    have hcw := lexL_cw _ _ _ _ hlx
    rw [ba_length] at hcw
    obtain ⟨r, b', hr⟩ := script_tot W s0.length 70000 [] 0 (t.size : Int) (-1) (by omega) (by omega) (by omega) (by omega) (by simp; omega)
    have hsc : say_Script.f 70000 t = if b' ≥ 0 then some ([], b', 4) else some (r, 0, 0) := by
      unfold say_Script.f
      rw [htok]
      simp only [Option.bind_some]
      rw [if_neg (by decide)]
      unfold scriptF
      rw [hr]
      rfl
    by_cases hb : b' ≥ 0
    · rw [if_pos hb] at hsc
      have hle : b' ≤ (t.size : Int) := by
        rcases script_kb _ _ _ _ _ _ _ hr with h | h | ⟨s, hs, h⟩
        · omega
        · omega
        · have := (lexL_pos _ _ _).1 _ hlx s hs
          rw [ba_length] at this
          omega
      exact scripts_bad 70000 a0 t b' w ht hsc hb hle haw
    · rw [if_neg hb] at hsc
      obtain ⟨l, ts, hl, _, hst, hg, hlen, hln⟩ := script_snd W 70000 [] r 0 (t.size : Int) (-1) b' (by omega) (fun _ => by omega) hr (by omega)
      rw [List.nil_append] at hl
      subst hl
      have hpre : cw ts ≤ cw (s0.map tkOf) := cw_prefix (by simpa [Stands] using hst)
      have htl : ts.length ≤ s0.length := by have := hst.length_le; simpa using this
      have hal : (allText r).length ≤ 65536 := by omega
      have hcl : r.map cleanS = r := by
        have : ∀ x ∈ r, cleanS x = id x := fun x hx => (hg x hx).2
        rw [List.map_congr_left this]; simp
      have hs2 := script_ok (allText r) r true (allText_lexes r fun x hx => (hg x hx).1) (fun x hx => (hg x hx).1) hal (by omega) 70000 (by decide)
      rw [hcl] at hs2
      exact scripts_good 70000 a0 t r w ht hsc (by omega) (fun x hx => ⟨⟨(hg x hx).1.ok, (hg x hx).1.k1, (hg x hx).1.k2⟩, (hg x hx).2⟩) (by omega) hs2 haw
  · have hsc : say_Script.f 70000 t = some ([], (p : Int), 4) := by
      unfold say_Script.f
      rw [htok]
      simp only [Option.bind_some]
      rw [if_pos (by decide)]
    have hp : (p : Int) ≤ (t.size : Int) := by
      have := (lexL_pos _ _ _).2 _ hlx
      rw [ba_length] at this
      omega
    exact scripts_bad 70000 a0 t p w ht hsc (by omega) hp haw

end Go.Proofs.Ytokkjnfdfbpphaa.A
