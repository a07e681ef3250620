/- The functions that this claim's statement reaches, each with what it computes and the proof that it does. -/
import Derived.Test.YtokkjnfdfbpphaaProg
import Derived.Below
import Derived.Deep.Draws
import Derived.Deep.AppendLies
import Derived.Maps.AppendAt
import Derived.OwnWalk
import Derived.Laws.BytesArg
import Derived.Laws.MakeOwn
import Derived.Laws.OwnMore
import Derived.Deep.OwnRows
import Derived.Tactics
import Derived.Lib.ConvBytes
import Derived.Laws.Slices
import Derived.WalkKit
import Derived.KernelRfl
import Derived.RowKit3
import Derived.Deep.LoopGhost
import Derived.Deep.QuietTactic
import Derived.BigQuiet
import Derived.WideLaws
import Derived.Deep.DeepCutAuto
import Derived.Deep.CutBlock
import Derived.Deep.RegionHeld3
import Derived.Laws.Rows
import Derived.Lib.AppendStr
import Derived.ArgAppend
import Derived.Laws.IdiomCopy
import Derived.OrdersHeld
import Derived.Laws.BitsLemmas
import Derived.RowKit
import Derived.Lib.Builder
import Derived.Lib.UnsafeStr
import Derived.Test.YtokkjnfdfbpphaaShelf
import Derived.Test.YtokkjnfdfbpphaaWWords
import Derived.Test.YtokkjnfdfbpphaaWLast
import Derived.Test.YtokkjnfdfbpphaaWTab
import Derived.Test.YtokkjnfdfbpphaaWFour
import Derived.Test.YtokkjnfdfbpphaaWQPut
import Derived.Test.YtokkjnfdfbpphaaWApart
import Derived.Test.YtokkjnfdfbpphaaWArr
import Derived.Test.YtokkjnfdfbpphaaWZeros
import Derived.Test.YtokkjnfdfbpphaaWFoot
import Derived.Test.YtokkjnfdfbpphaaWKept
import Derived.Test.YtokkjnfdfbpphaaWShare
import Derived.Test.YtokkjnfdfbpphaaWN
import Derived.Test.YtokkjnfdfbpphaaWFootNe
import Derived.Test.YtokkjnfdfbpphaaWAt
import Derived.Test.YtokkjnfdfbpphaaWEqStruct
import Derived.Test.YtokkjnfdfbpphaaWRepsOne
import Derived.Test.YtokkjnfdfbpphaaWInv
import Derived.Test.YtokkjnfdfbpphaaWInvWords
import Derived.Test.YtokkjnfdfbpphaaWGuard
import Derived.Test.YtokkjnfdfbpphaaWNEv
import Derived.Test.YtokkjnfdfbpphaaWMore
namespace Go.Proofs.Ytokkjnfdfbpphaa.A
open Go.RowKit Go.Proofs.YtokkjnfdfbpphaaW.PrintWords Go.Proofs.YtokkjnfdfbpphaaW.PrintLast Go.Proofs.YtokkjnfdfbpphaaW.PrintMore
attribute [local go_sem] max2_int min2_int max_two min_two max_three min_three max_four min_four   -- for this text's walks alone
set_option linter.unusedVariables false
set_option linter.unusedSimpArgs false



def errW : Option Int → Value
  | none => .nilIface
  | some c => .iface 0 (.int .i64 c)
theorem errW_none : errW none = .nilIface := rfl
theorem errW_some (c : Int) : errW (some c) = .iface 0 (.int .i64 c) := rfl

theorem info3 : (Try.prog.info? 3).map (fun i => (i.zero, i.size, i.bytes)) = some (some (.int .i64 0), 1, 8) := by kernel_rfl
theorem info5 : (Try.prog.info? 5).map (fun i => (i.zero, i.size, i.bytes)) = some (some (.int .u8 0), 1, 1) := by kernel_rfl
theorem info9 : (Try.prog.info? 9).map (fun i => (i.zero, i.size, i.bytes)) = some (some (.string ⟨#[]⟩), 1, 16) := by kernel_rfl
theorem info87 : (Try.prog.info? 87).map (fun i => (i.zero, i.size, i.bytes)) = some (some (.agg #[(.string ⟨#[]⟩), (.int .i64 0), (.bool false), (.int .i64 0), (.int .u64 0), (.string ⟨#[]⟩)]), 6, 64) := by kernel_rfl
-- the values' own types
/-! #### struct type 28 -/
structure S28 where
  f0 : Int
  f1 : ByteArray
  f2 : Int
def z28 : S28 := ⟨(0 : Int), (⟨#[]⟩ : ByteArray), (0 : Int)⟩
def k28 : Kd S28 := Kd.iso (Kd.pair (Kd.int .i64) (Kd.pair Kd.string (Kd.int .i64))) (fun x : S28 => (x.f0, x.f1, x.f2))
theorem k28_open {w : World} {x : S28} {cs : List Value} (h : k28.K w x cs) : cs = [.int .i64 x.f0, .string x.f1, .int .i64 x.f2] := by
  obtain ⟨_, _, rfl, rfl, ⟨_, _, rfl, rfl, rfl⟩⟩ := h
  exact rfl
theorem k28_openM {w : World} {base : Nat} {ok : Nat → Prop} {x : S28} {cs : List Value} (h : k28.M w base ok x cs) : cs = [.int .i64 x.f0, .string x.f1, .int .i64 x.f2] := by
  obtain ⟨_, _, rfl, rfl, ⟨_, _, rfl, rfl, rfl⟩⟩ := h
  exact rfl
theorem k28_mk (w : World) (x : S28)  : k28.K w x [.int .i64 x.f0, .string x.f1, .int .i64 x.f2] := ⟨[.int .i64 x.f0], [.string x.f1, .int .i64 x.f2], rfl, rfl, ⟨[.string x.f1], [.int .i64 x.f2], rfl, rfl, rfl⟩⟩
theorem k28_mkM (w : World) (base : Nat) (ok : Nat → Prop) (x : S28)  : k28.M w base ok x [.int .i64 x.f0, .string x.f1, .int .i64 x.f2] := ⟨[.int .i64 x.f0], [.string x.f1, .int .i64 x.f2], rfl, rfl, ⟨[.string x.f1], [.int .i64 x.f2], rfl, rfl, rfl⟩⟩
def rd_T28 (xs : List S28) (i : Int) : S28 := xs.getD i.toNat z28
theorem at_T28 {w : World} {A : Option Addr} {n : Nat} {xs : List S28} (h : Kd.C k28 w A n xs) (i : Int) (h0 : 0 ≤ i) (h1 : i < n) : ∃ ad , A = some ad ∧ w.cell? (ad.add (i.toNat * 3)) = some (.int .i64 (rd_T28 xs i).f0) ∧ w.cell? ⟨(ad.add (i.toNat * 3)).block, (ad.add (i.toNat * 3)).off + 1, none⟩ = some (.string (rd_T28 xs i).f1) ∧ w.cell? ⟨(ad.add (i.toNat * 3)).block, (ad.add (i.toNat * 3)).off + 2, none⟩ = some (.int .i64 (rd_T28 xs i).f2) := by
  obtain ⟨ad, c, e, _, hK, hc0⟩ := Kd.C_get h z28 i h0 h1
  have hc : ∀ j u, c[j]? = some u → w.cell? (ad.add (i.toNat * 3 + j)) = some u := hc0
  obtain rfl := k28_open hK
  exact ⟨ad, e, hc 0 _ rfl, by rw [← add_field _ _ 1 (by omega)]; exact hc 1 _ rfl, by rw [← add_field _ _ 2 (by omega)]; exact hc 2 _ rfl⟩

/-! #### struct type 33 -/
structure S33 where
  f0 : Int
  f1 : Bool
  f2 : Int
  f3 : Int
  f4 : ByteArray
def z33 : S33 := ⟨(0 : Int), false, (0 : Int), (0 : Int), (⟨#[]⟩ : ByteArray)⟩
def k33 : Kd S33 := Kd.iso (Kd.pair (Kd.int .i64) (Kd.pair Kd.bool (Kd.pair (Kd.int .i64) (Kd.pair (Kd.int .u64) Kd.string)))) (fun x : S33 => (x.f0, x.f1, x.f2, x.f3, x.f4))
theorem k33_open {w : World} {x : S33} {cs : List Value} (h : k33.K w x cs) : cs = [.int .i64 x.f0, .bool x.f1, .int .i64 x.f2, .int .u64 x.f3, .string x.f4] := by
  obtain ⟨_, _, rfl, rfl, ⟨_, _, rfl, rfl, ⟨_, _, rfl, rfl, ⟨_, _, rfl, rfl, rfl⟩⟩⟩⟩ := h
  exact rfl
theorem k33_openM {w : World} {base : Nat} {ok : Nat → Prop} {x : S33} {cs : List Value} (h : k33.M w base ok x cs) : cs = [.int .i64 x.f0, .bool x.f1, .int .i64 x.f2, .int .u64 x.f3, .string x.f4] := by
  obtain ⟨_, _, rfl, rfl, ⟨_, _, rfl, rfl, ⟨_, _, rfl, rfl, ⟨_, _, rfl, rfl, rfl⟩⟩⟩⟩ := h
  exact rfl
theorem k33_mk (w : World) (x : S33)  : k33.K w x [.int .i64 x.f0, .bool x.f1, .int .i64 x.f2, .int .u64 x.f3, .string x.f4] := ⟨[.int .i64 x.f0], [.bool x.f1, .int .i64 x.f2, .int .u64 x.f3, .string x.f4], rfl, rfl, ⟨[.bool x.f1], [.int .i64 x.f2, .int .u64 x.f3, .string x.f4], rfl, rfl, ⟨[.int .i64 x.f2], [.int .u64 x.f3, .string x.f4], rfl, rfl, ⟨[.int .u64 x.f3], [.string x.f4], rfl, rfl, rfl⟩⟩⟩⟩
theorem k33_mkM (w : World) (base : Nat) (ok : Nat → Prop) (x : S33)  : k33.M w base ok x [.int .i64 x.f0, .bool x.f1, .int .i64 x.f2, .int .u64 x.f3, .string x.f4] := ⟨[.int .i64 x.f0], [.bool x.f1, .int .i64 x.f2, .int .u64 x.f3, .string x.f4], rfl, rfl, ⟨[.bool x.f1], [.int .i64 x.f2, .int .u64 x.f3, .string x.f4], rfl, rfl, ⟨[.int .i64 x.f2], [.int .u64 x.f3, .string x.f4], rfl, rfl, ⟨[.int .u64 x.f3], [.string x.f4], rfl, rfl, rfl⟩⟩⟩⟩
def rd_T33 (xs : List S33) (i : Int) : S33 := xs.getD i.toNat z33
theorem at_T33 {w : World} {A : Option Addr} {n : Nat} {xs : List S33} (h : Kd.C k33 w A n xs) (i : Int) (h0 : 0 ≤ i) (h1 : i < n) : ∃ ad , A = some ad ∧ w.cell? (ad.add (i.toNat * 5)) = some (.int .i64 (rd_T33 xs i).f0) ∧ w.cell? ⟨(ad.add (i.toNat * 5)).block, (ad.add (i.toNat * 5)).off + 1, none⟩ = some (.bool (rd_T33 xs i).f1) ∧ w.cell? ⟨(ad.add (i.toNat * 5)).block, (ad.add (i.toNat * 5)).off + 2, none⟩ = some (.int .i64 (rd_T33 xs i).f2) ∧ w.cell? ⟨(ad.add (i.toNat * 5)).block, (ad.add (i.toNat * 5)).off + 3, none⟩ = some (.int .u64 (rd_T33 xs i).f3) ∧ w.cell? ⟨(ad.add (i.toNat * 5)).block, (ad.add (i.toNat * 5)).off + 4, none⟩ = some (.string (rd_T33 xs i).f4) := by
  obtain ⟨ad, c, e, _, hK, hc0⟩ := Kd.C_get h z33 i h0 h1
  have hc : ∀ j u, c[j]? = some u → w.cell? (ad.add (i.toNat * 5 + j)) = some u := hc0
  obtain rfl := k33_open hK
  exact ⟨ad, e, hc 0 _ rfl, by rw [← add_field _ _ 1 (by omega)]; exact hc 1 _ rfl, by rw [← add_field _ _ 2 (by omega)]; exact hc 2 _ rfl, by rw [← add_field _ _ 3 (by omega)]; exact hc 3 _ rfl, by rw [← add_field _ _ 4 (by omega)]; exact hc 4 _ rfl⟩

/-! #### struct type 87 -/
structure S87 where
  f0 : ByteArray
  f1 : S33
def z87 : S87 := ⟨(⟨#[]⟩ : ByteArray), z33⟩
def k87 : Kd S87 := Kd.iso (Kd.pair Kd.string k33) (fun x : S87 => (x.f0, x.f1))
theorem k87_open {w : World} {x : S87} {cs : List Value} (h : k87.K w x cs) : cs = [.string x.f0, .int .i64 x.f1.f0, .bool x.f1.f1, .int .i64 x.f1.f2, .int .u64 x.f1.f3, .string x.f1.f4] := by
  obtain ⟨_, _, rfl, rfl, s1⟩ := h
  obtain rfl := k33_open s1
  exact rfl
theorem k87_openM {w : World} {base : Nat} {ok : Nat → Prop} {x : S87} {cs : List Value} (h : k87.M w base ok x cs) : cs = [.string x.f0, .int .i64 x.f1.f0, .bool x.f1.f1, .int .i64 x.f1.f2, .int .u64 x.f1.f3, .string x.f1.f4] := by
  obtain ⟨_, _, rfl, rfl, s1⟩ := h
  obtain rfl := k33_openM s1
  exact rfl
theorem k87_mk (w : World) (x : S87)  : k87.K w x [.string x.f0, .int .i64 x.f1.f0, .bool x.f1.f1, .int .i64 x.f1.f2, .int .u64 x.f1.f3, .string x.f1.f4] := ⟨[.string x.f0], [.int .i64 x.f1.f0, .bool x.f1.f1, .int .i64 x.f1.f2, .int .u64 x.f1.f3, .string x.f1.f4], rfl, rfl, (k33_mk w x.f1 )⟩
theorem k87_mkM (w : World) (base : Nat) (ok : Nat → Prop) (x : S87)  : k87.M w base ok x [.string x.f0, .int .i64 x.f1.f0, .bool x.f1.f1, .int .i64 x.f1.f2, .int .u64 x.f1.f3, .string x.f1.f4] := ⟨[.string x.f0], [.int .i64 x.f1.f0, .bool x.f1.f1, .int .i64 x.f1.f2, .int .u64 x.f1.f3, .string x.f1.f4], rfl, rfl, (k33_mkM w base ok x.f1 )⟩
def rd_T87 (xs : List S87) (i : Int) : S87 := xs.getD i.toNat z87
theorem at_T87 {w : World} {A : Option Addr} {n : Nat} {xs : List S87} (h : Kd.C k87 w A n xs) (i : Int) (h0 : 0 ≤ i) (h1 : i < n) : ∃ ad , A = some ad ∧ w.cell? (ad.add (i.toNat * 6)) = some (.string (rd_T87 xs i).f0) ∧ w.cell? ⟨(ad.add (i.toNat * 6)).block, (ad.add (i.toNat * 6)).off + 1, none⟩ = some (.int .i64 (rd_T87 xs i).f1.f0) ∧ w.cell? ⟨(ad.add (i.toNat * 6)).block, (ad.add (i.toNat * 6)).off + 2, none⟩ = some (.bool (rd_T87 xs i).f1.f1) ∧ w.cell? ⟨(ad.add (i.toNat * 6)).block, (ad.add (i.toNat * 6)).off + 3, none⟩ = some (.int .i64 (rd_T87 xs i).f1.f2) ∧ w.cell? ⟨(ad.add (i.toNat * 6)).block, (ad.add (i.toNat * 6)).off + 4, none⟩ = some (.int .u64 (rd_T87 xs i).f1.f3) ∧ w.cell? ⟨(ad.add (i.toNat * 6)).block, (ad.add (i.toNat * 6)).off + 5, none⟩ = some (.string (rd_T87 xs i).f1.f4) := by
  obtain ⟨ad, c, e, _, hK, hc0⟩ := Kd.C_get h z87 i h0 h1
  have hc : ∀ j u, c[j]? = some u → w.cell? (ad.add (i.toNat * 6 + j)) = some u := hc0
  obtain rfl := k87_open hK
  exact ⟨ad, e, hc 0 _ rfl, by rw [← add_field _ _ 1 (by omega)]; exact hc 1 _ rfl, by rw [← add_field _ _ 2 (by omega)]; exact hc 2 _ rfl, by rw [← add_field _ _ 3 (by omega)]; exact hc 3 _ rfl, by rw [← add_field _ _ 4 (by omega)]; exact hc 4 _ rfl, by rw [← add_field _ _ 5 (by omega)]; exact hc 5 _ rfl⟩

def rd_L7 (xs : List (List S87)) (i : Int) : (List S87) := xs.getD i.toNat ([] : List S87)
theorem at_L7 {w : World} {A : Option Addr} {n : Nat} {xs : List (List S87)} (h : Kd.C (Kd.slice 87 k87) w A n xs) (i : Int) (h0 : 0 ≤ i) (h1 : i < n) : ∃ ad A0 c0, A = some ad ∧ w.cell? (ad.add i.toNat) = some (.slice A0 (rd_L7 xs i).length c0) ∧ (rd_L7 xs i).length ≤ c0 ∧ k87.C w A0 (rd_L7 xs i).length (rd_L7 xs i) := by
  obtain ⟨ad, c, e, _, hK, hc0⟩ := Kd.C_get h ([] : List S87) i h0 h1
  have hc : ∀ j u, c[j]? = some u → w.cell? (ad.add (i.toNat * 1 + j)) = some u := hc0
  obtain ⟨A0, c0, rfl, l0, g0⟩ := hK
  exact ⟨ad, A0, c0, e, by have hq := hc 0 _ rfl; rwa [Nat.mul_one, Nat.add_zero] at hq, l0, g0⟩

/-! #### struct type 42 -/
structure S42 where
  f0 : ByteArray
  f1 : Int
  f2 : (List S87)
def z42 : S42 := ⟨(⟨#[]⟩ : ByteArray), (0 : Int), ([] : List S87)⟩
def k42 : Kd S42 := Kd.iso (Kd.pair Kd.string (Kd.pair (Kd.int .i64) (Kd.slice 87 k87))) (fun x : S42 => (x.f0, x.f1, x.f2))
theorem k42_open {w : World} {x : S42} {cs : List Value} (h : k42.K w x cs) : ∃ A2 c2, cs = [.string x.f0, .int .i64 x.f1, .slice A2 x.f2.length c2] ∧ x.f2.length ≤ c2 ∧ k87.C w A2 x.f2.length x.f2 := by
  obtain ⟨_, _, rfl, rfl, ⟨_, _, rfl, rfl, ⟨A2, c2, rfl, l2, g2⟩⟩⟩ := h
  exact ⟨A2, c2, rfl, l2, g2⟩
theorem k42_openM {w : World} {base : Nat} {ok : Nat → Prop} {x : S42} {cs : List Value} (h : k42.M w base ok x cs) : ∃ v2, cs = [.string x.f0, .int .i64 x.f1, v2] ∧ k87.R 87 w base ok v2 x.f2 := by
  obtain ⟨_, _, rfl, rfl, ⟨_, _, rfl, rfl, ⟨v2, rfl, g2⟩⟩⟩ := h
  exact ⟨v2, rfl, g2⟩
theorem k42_mk (w : World) (x : S42) {A2 : Option Addr} {c2 : Nat} (l2 : x.f2.length ≤ c2) (g2 : k87.C w A2 x.f2.length x.f2) : k42.K w x [.string x.f0, .int .i64 x.f1, .slice A2 x.f2.length c2] := ⟨[.string x.f0], [.int .i64 x.f1, .slice A2 x.f2.length c2], rfl, rfl, ⟨[.int .i64 x.f1], [.slice A2 x.f2.length c2], rfl, rfl, ⟨A2, c2, rfl, l2, g2⟩⟩⟩
theorem k42_mkM (w : World) (base : Nat) (ok : Nat → Prop) (x : S42) {v2 : Value} (g2 : k87.R 87 w base ok v2 x.f2) : k42.M w base ok x [.string x.f0, .int .i64 x.f1, v2] := ⟨[.string x.f0], [.int .i64 x.f1, v2], rfl, rfl, ⟨[.int .i64 x.f1], [v2], rfl, rfl, ⟨v2, rfl, g2⟩⟩⟩
def rd_T42 (xs : List S42) (i : Int) : S42 := xs.getD i.toNat z42
theorem at_T42 {w : World} {A : Option Addr} {n : Nat} {xs : List S42} (h : Kd.C k42 w A n xs) (i : Int) (h0 : 0 ≤ i) (h1 : i < n) : ∃ ad A2 c2, A = some ad ∧ w.cell? (ad.add (i.toNat * 3)) = some (.string (rd_T42 xs i).f0) ∧ w.cell? ⟨(ad.add (i.toNat * 3)).block, (ad.add (i.toNat * 3)).off + 1, none⟩ = some (.int .i64 (rd_T42 xs i).f1) ∧ w.cell? ⟨(ad.add (i.toNat * 3)).block, (ad.add (i.toNat * 3)).off + 2, none⟩ = some (.slice A2 (rd_T42 xs i).f2.length c2) ∧ (rd_T42 xs i).f2.length ≤ c2 ∧ k87.C w A2 (rd_T42 xs i).f2.length (rd_T42 xs i).f2 := by
  obtain ⟨ad, c, e, _, hK, hc0⟩ := Kd.C_get h z42 i h0 h1
  have hc : ∀ j u, c[j]? = some u → w.cell? (ad.add (i.toNat * 3 + j)) = some u := hc0
  obtain ⟨A2, c2, rfl, l2, g2⟩ := k42_open hK
  exact ⟨ad, A2, c2, e, hc 0 _ rfl, by rw [← add_field _ _ 1 (by omega)]; exact hc 1 _ rfl, by rw [← add_field _ _ 2 (by omega)]; exact hc 2 _ rfl, l2, g2⟩

def rd_L9 (xs : List (List ByteArray)) (i : Int) : (List ByteArray) := xs.getD i.toNat ([] : List ByteArray)
theorem at_L9 {w : World} {A : Option Addr} {n : Nat} {xs : List (List ByteArray)} (h : Kd.C (Kd.slice 9 Kd.string) w A n xs) (i : Int) (h0 : 0 ≤ i) (h1 : i < n) : ∃ ad A0 c0, A = some ad ∧ w.cell? (ad.add i.toNat) = some (.slice A0 (rd_L9 xs i).length c0) ∧ (rd_L9 xs i).length ≤ c0 ∧ Kd.string.C w A0 (rd_L9 xs i).length (rd_L9 xs i) := by
  obtain ⟨ad, c, e, _, hK, hc0⟩ := Kd.C_get h ([] : List ByteArray) i h0 h1
  have hc : ∀ j u, c[j]? = some u → w.cell? (ad.add (i.toNat * 1 + j)) = some u := hc0
  obtain ⟨A0, c0, rfl, l0, g0⟩ := hK
  exact ⟨ad, A0, c0, e, by have hq := hc 0 _ rfl; rwa [Nat.mul_one, Nat.add_zero] at hq, l0, g0⟩

/-! #### struct type 45 -/
structure S45 where
  f0 : Int
  f1 : S42
  f2 : ByteArray
  f3 : ByteArray
  f4 : (List ByteArray)
  f5 : ByteArray
  f6 : Int
  f7 : Int
  f8 : Int
  f9 : Int
def z45 : S45 := ⟨(0 : Int), z42, (⟨#[]⟩ : ByteArray), (⟨#[]⟩ : ByteArray), ([] : List ByteArray), (⟨#[]⟩ : ByteArray), (0 : Int), (0 : Int), (0 : Int), (0 : Int)⟩
def k45 : Kd S45 := Kd.iso (Kd.pair (Kd.int .i64) (Kd.pair k42 (Kd.pair Kd.string (Kd.pair Kd.string (Kd.pair (Kd.slice 9 Kd.string) (Kd.pair Kd.string (Kd.pair (Kd.int .i64) (Kd.pair (Kd.int .i64) (Kd.pair (Kd.int .u64) (Kd.int .i64)))))))))) (fun x : S45 => (x.f0, x.f1, x.f2, x.f3, x.f4, x.f5, x.f6, x.f7, x.f8, x.f9))
theorem k45_open {w : World} {x : S45} {cs : List Value} (h : k45.K w x cs) : ∃ A3 c3 A6 c6, cs = [.int .i64 x.f0, .string x.f1.f0, .int .i64 x.f1.f1, .slice A3 x.f1.f2.length c3, .string x.f2, .string x.f3, .slice A6 x.f4.length c6, .string x.f5, .int .i64 x.f6, .int .i64 x.f7, .int .u64 x.f8, .int .i64 x.f9] ∧ x.f1.f2.length ≤ c3 ∧ k87.C w A3 x.f1.f2.length x.f1.f2 ∧ x.f4.length ≤ c6 ∧ Kd.string.C w A6 x.f4.length x.f4 := by
  obtain ⟨_, _, rfl, rfl, ⟨_, _, rfl, s1, ⟨_, _, rfl, rfl, ⟨_, _, rfl, rfl, ⟨_, _, rfl, ⟨A6, c6, rfl, l6, g6⟩, ⟨_, _, rfl, rfl, ⟨_, _, rfl, rfl, ⟨_, _, rfl, rfl, ⟨_, _, rfl, rfl, rfl⟩⟩⟩⟩⟩⟩⟩⟩⟩ := h
  obtain ⟨A3, c3, rfl, l3, g3⟩ := k42_open s1
  exact ⟨A3, c3, A6, c6, rfl, l3, g3, l6, g6⟩
theorem k45_openM {w : World} {base : Nat} {ok : Nat → Prop} {x : S45} {cs : List Value} (h : k45.M w base ok x cs) : ∃ v3 v6, cs = [.int .i64 x.f0, .string x.f1.f0, .int .i64 x.f1.f1, v3, .string x.f2, .string x.f3, v6, .string x.f5, .int .i64 x.f6, .int .i64 x.f7, .int .u64 x.f8, .int .i64 x.f9] ∧ k87.R 87 w base ok v3 x.f1.f2 ∧ Kd.string.R 9 w base ok v6 x.f4 := by
  obtain ⟨_, _, rfl, rfl, ⟨_, _, rfl, s1, ⟨_, _, rfl, rfl, ⟨_, _, rfl, rfl, ⟨_, _, rfl, ⟨v6, rfl, g6⟩, ⟨_, _, rfl, rfl, ⟨_, _, rfl, rfl, ⟨_, _, rfl, rfl, ⟨_, _, rfl, rfl, rfl⟩⟩⟩⟩⟩⟩⟩⟩⟩ := h
  obtain ⟨v3, rfl, g3⟩ := k42_openM s1
  exact ⟨v3, v6, rfl, g3, g6⟩
theorem k45_mk (w : World) (x : S45) {A3 : Option Addr} {c3 : Nat} (l3 : x.f1.f2.length ≤ c3) (g3 : k87.C w A3 x.f1.f2.length x.f1.f2) {A6 : Option Addr} {c6 : Nat} (l6 : x.f4.length ≤ c6) (g6 : Kd.string.C w A6 x.f4.length x.f4) : k45.K w x [.int .i64 x.f0, .string x.f1.f0, .int .i64 x.f1.f1, .slice A3 x.f1.f2.length c3, .string x.f2, .string x.f3, .slice A6 x.f4.length c6, .string x.f5, .int .i64 x.f6, .int .i64 x.f7, .int .u64 x.f8, .int .i64 x.f9] := ⟨[.int .i64 x.f0], [.string x.f1.f0, .int .i64 x.f1.f1, .slice A3 x.f1.f2.length c3, .string x.f2, .string x.f3, .slice A6 x.f4.length c6, .string x.f5, .int .i64 x.f6, .int .i64 x.f7, .int .u64 x.f8, .int .i64 x.f9], rfl, rfl, ⟨[.string x.f1.f0, .int .i64 x.f1.f1, .slice A3 x.f1.f2.length c3], [.string x.f2, .string x.f3, .slice A6 x.f4.length c6, .string x.f5, .int .i64 x.f6, .int .i64 x.f7, .int .u64 x.f8, .int .i64 x.f9], rfl, (k42_mk w x.f1 l3 g3), ⟨[.string x.f2], [.string x.f3, .slice A6 x.f4.length c6, .string x.f5, .int .i64 x.f6, .int .i64 x.f7, .int .u64 x.f8, .int .i64 x.f9], rfl, rfl, ⟨[.string x.f3], [.slice A6 x.f4.length c6, .string x.f5, .int .i64 x.f6, .int .i64 x.f7, .int .u64 x.f8, .int .i64 x.f9], rfl, rfl, ⟨[.slice A6 x.f4.length c6], [.string x.f5, .int .i64 x.f6, .int .i64 x.f7, .int .u64 x.f8, .int .i64 x.f9], rfl, ⟨A6, c6, rfl, l6, g6⟩, ⟨[.string x.f5], [.int .i64 x.f6, .int .i64 x.f7, .int .u64 x.f8, .int .i64 x.f9], rfl, rfl, ⟨[.int .i64 x.f6], [.int .i64 x.f7, .int .u64 x.f8, .int .i64 x.f9], rfl, rfl, ⟨[.int .i64 x.f7], [.int .u64 x.f8, .int .i64 x.f9], rfl, rfl, ⟨[.int .u64 x.f8], [.int .i64 x.f9], rfl, rfl, rfl⟩⟩⟩⟩⟩⟩⟩⟩⟩
theorem k45_mkM (w : World) (base : Nat) (ok : Nat → Prop) (x : S45) {v3 : Value} (g3 : k87.R 87 w base ok v3 x.f1.f2) {v6 : Value} (g6 : Kd.string.R 9 w base ok v6 x.f4) : k45.M w base ok x [.int .i64 x.f0, .string x.f1.f0, .int .i64 x.f1.f1, v3, .string x.f2, .string x.f3, v6, .string x.f5, .int .i64 x.f6, .int .i64 x.f7, .int .u64 x.f8, .int .i64 x.f9] := ⟨[.int .i64 x.f0], [.string x.f1.f0, .int .i64 x.f1.f1, v3, .string x.f2, .string x.f3, v6, .string x.f5, .int .i64 x.f6, .int .i64 x.f7, .int .u64 x.f8, .int .i64 x.f9], rfl, rfl, ⟨[.string x.f1.f0, .int .i64 x.f1.f1, v3], [.string x.f2, .string x.f3, v6, .string x.f5, .int .i64 x.f6, .int .i64 x.f7, .int .u64 x.f8, .int .i64 x.f9], rfl, (k42_mkM w base ok x.f1 g3), ⟨[.string x.f2], [.string x.f3, v6, .string x.f5, .int .i64 x.f6, .int .i64 x.f7, .int .u64 x.f8, .int .i64 x.f9], rfl, rfl, ⟨[.string x.f3], [v6, .string x.f5, .int .i64 x.f6, .int .i64 x.f7, .int .u64 x.f8, .int .i64 x.f9], rfl, rfl, ⟨[v6], [.string x.f5, .int .i64 x.f6, .int .i64 x.f7, .int .u64 x.f8, .int .i64 x.f9], rfl, ⟨v6, rfl, g6⟩, ⟨[.string x.f5], [.int .i64 x.f6, .int .i64 x.f7, .int .u64 x.f8, .int .i64 x.f9], rfl, rfl, ⟨[.int .i64 x.f6], [.int .i64 x.f7, .int .u64 x.f8, .int .i64 x.f9], rfl, rfl, ⟨[.int .i64 x.f7], [.int .u64 x.f8, .int .i64 x.f9], rfl, rfl, ⟨[.int .u64 x.f8], [.int .i64 x.f9], rfl, rfl, rfl⟩⟩⟩⟩⟩⟩⟩⟩⟩
def rd_T45 (xs : List S45) (i : Int) : S45 := xs.getD i.toNat z45
theorem at_T45 {w : World} {A : Option Addr} {n : Nat} {xs : List S45} (h : Kd.C k45 w A n xs) (i : Int) (h0 : 0 ≤ i) (h1 : i < n) : ∃ ad A3 c3 A6 c6, A = some ad ∧ w.cell? (ad.add (i.toNat * 12)) = some (.int .i64 (rd_T45 xs i).f0) ∧ w.cell? ⟨(ad.add (i.toNat * 12)).block, (ad.add (i.toNat * 12)).off + 1, none⟩ = some (.string (rd_T45 xs i).f1.f0) ∧ w.cell? ⟨(ad.add (i.toNat * 12)).block, (ad.add (i.toNat * 12)).off + 2, none⟩ = some (.int .i64 (rd_T45 xs i).f1.f1) ∧ w.cell? ⟨(ad.add (i.toNat * 12)).block, (ad.add (i.toNat * 12)).off + 3, none⟩ = some (.slice A3 (rd_T45 xs i).f1.f2.length c3) ∧ w.cell? ⟨(ad.add (i.toNat * 12)).block, (ad.add (i.toNat * 12)).off + 4, none⟩ = some (.string (rd_T45 xs i).f2) ∧ w.cell? ⟨(ad.add (i.toNat * 12)).block, (ad.add (i.toNat * 12)).off + 5, none⟩ = some (.string (rd_T45 xs i).f3) ∧ w.cell? ⟨(ad.add (i.toNat * 12)).block, (ad.add (i.toNat * 12)).off + 6, none⟩ = some (.slice A6 (rd_T45 xs i).f4.length c6) ∧ w.cell? ⟨(ad.add (i.toNat * 12)).block, (ad.add (i.toNat * 12)).off + 7, none⟩ = some (.string (rd_T45 xs i).f5) ∧ w.cell? ⟨(ad.add (i.toNat * 12)).block, (ad.add (i.toNat * 12)).off + 8, none⟩ = some (.int .i64 (rd_T45 xs i).f6) ∧ w.cell? ⟨(ad.add (i.toNat * 12)).block, (ad.add (i.toNat * 12)).off + 9, none⟩ = some (.int .i64 (rd_T45 xs i).f7) ∧ w.cell? ⟨(ad.add (i.toNat * 12)).block, (ad.add (i.toNat * 12)).off + 10, none⟩ = some (.int .u64 (rd_T45 xs i).f8) ∧ w.cell? ⟨(ad.add (i.toNat * 12)).block, (ad.add (i.toNat * 12)).off + 11, none⟩ = some (.int .i64 (rd_T45 xs i).f9) ∧ (rd_T45 xs i).f1.f2.length ≤ c3 ∧ k87.C w A3 (rd_T45 xs i).f1.f2.length (rd_T45 xs i).f1.f2 ∧ (rd_T45 xs i).f4.length ≤ c6 ∧ Kd.string.C w A6 (rd_T45 xs i).f4.length (rd_T45 xs i).f4 := by
  obtain ⟨ad, c, e, _, hK, hc0⟩ := Kd.C_get h z45 i h0 h1
  have hc : ∀ j u, c[j]? = some u → w.cell? (ad.add (i.toNat * 12 + j)) = some u := hc0
  obtain ⟨A3, c3, A6, c6, rfl, l3, g3, l6, g6⟩ := k45_open hK
  exact ⟨ad, A3, c3, A6, c6, e, hc 0 _ rfl, by rw [← add_field _ _ 1 (by omega)]; exact hc 1 _ rfl, by rw [← add_field _ _ 2 (by omega)]; exact hc 2 _ rfl, by rw [← add_field _ _ 3 (by omega)]; exact hc 3 _ rfl, by rw [← add_field _ _ 4 (by omega)]; exact hc 4 _ rfl, by rw [← add_field _ _ 5 (by omega)]; exact hc 5 _ rfl, by rw [← add_field _ _ 6 (by omega)]; exact hc 6 _ rfl, by rw [← add_field _ _ 7 (by omega)]; exact hc 7 _ rfl, by rw [← add_field _ _ 8 (by omega)]; exact hc 8 _ rfl, by rw [← add_field _ _ 9 (by omega)]; exact hc 9 _ rfl, by rw [← add_field _ _ 10 (by omega)]; exact hc 10 _ rfl, by rw [← add_field _ _ 11 (by omega)]; exact hc 11 _ rfl, l3, g3, l6, g6⟩

end Go.Proofs.Ytokkjnfdfbpphaa.A
namespace Go.Proofs.Ytokkjnfdfbpphaa.A
open Go.RowKit Go.Proofs.YtokkjnfdfbpphaaW.PrintWords Go.Proofs.YtokkjnfdfbpphaaW.PrintLast Go.Proofs.YtokkjnfdfbpphaaW.PrintMore
attribute [local go_sem] max2_int min2_int max_two min_two max_three min_three max_four min_four   -- for this text's walks alone
set_option linter.unusedVariables false
set_option linter.unusedSimpArgs false

def isLetter (c : UInt8) : Bool := (97 ≤ c && c ≤ 122) || (65 ≤ c && c ≤ 90) || c == 95
def isDigit (c : UInt8) : Bool := 48 ≤ c && c ≤ 57
def isPlain (c : UInt8) : Bool := 32 ≤ c && c < 127 && c != 34 && c != 92
def notBreak (c : UInt8) : Bool := c != 10
def isWord (c : UInt8) : Bool := isLetter c || isDigit c

/-- Where the bytes from k on end for which p holds. -/
def runTo (p : UInt8 → Bool) (s : ByteArray) (k : Nat) : Nat := k + ((s.data.toList.drop k).takeWhile p).length

theorem drop_cons (s : ByteArray) (k : Nat) (h : k < s.size) : s.data.toList.drop k = s[k] :: s.data.toList.drop (k + 1) := by
  rw [List.drop_eq_getElem_cons (by simpa using h)]; rfl
theorem runTo_end (p : UInt8 → Bool) (s : ByteArray) (k : Nat) (h : s.size ≤ k) : runTo p s k = k := by
  unfold runTo; rw [List.drop_of_length_le (by simpa using h)]; rfl
theorem runTo_stop (p : UInt8 → Bool) (s : ByteArray) (k : Nat) (h : k < s.size) (hp : p s[k] = false) : runTo p s k = k := by
  unfold runTo; rw [drop_cons s k h]; simp [List.takeWhile, hp]
theorem runTo_step (p : UInt8 → Bool) (s : ByteArray) (k : Nat) (h : k < s.size) (hp : p s[k] = true) : runTo p s (k + 1) = runTo p s k := by
  unfold runTo; rw [drop_cons s k h]; simp [List.takeWhile, hp]; omega
theorem takeWhile_le {α : Type} (p : α → Bool) (l : List α) : (l.takeWhile p).length ≤ l.length := (List.takeWhile_sublist p).length_le
theorem runTo_le (p : UInt8 → Bool) (s : ByteArray) (k : Nat) (h : k ≤ s.size) : k ≤ runTo p s k ∧ runTo p s k ≤ s.size := by
  unfold runTo
  have := takeWhile_le p (s.data.toList.drop k)
  simp only [List.length_drop, Array.length_toList] at this
  have : s.data.size = s.size := rfl
  omega

/-- How many bytes are blanks, breaks and remarks (true: within a remark). -/
def blankLen : Bool → List UInt8 → Nat
  | _, [] => 0
  | false, c :: t => if c == 32 || c == 10 || c == 9 then blankLen false t + 1 else if c == 35 then blankLen true t + 1 else 0
  | true, c :: t => if c == 10 then blankLen false t + 1 else blankLen true t + 1
def blanksTo (s : ByteArray) (k : Nat) : Nat := k + blankLen false (s.data.toList.drop k)
theorem blankLen_le : ∀ (l : List UInt8) (b : Bool), blankLen b l ≤ l.length
  | [], b => by cases b <;> simp [blankLen]
  | c :: t, false => by
    have := blankLen_le t false; have := blankLen_le t true
    simp only [blankLen, List.length_cons]; repeat' split
    all_goals omega
  | c :: t, true => by
    have := blankLen_le t false; have := blankLen_le t true
    simp only [blankLen, List.length_cons]; split <;> omega
theorem blanksTo_le (s : ByteArray) (k : Nat) (h : k ≤ s.size) : k ≤ blanksTo s k ∧ blanksTo s k ≤ s.size := by
  unfold blanksTo
  have := blankLen_le (s.data.toList.drop k) false
  simp only [List.length_drop, Array.length_toList] at this
  have : s.data.size = s.size := rfl
  omega
theorem blankLen_remark : ∀ l : List UInt8, blankLen true l = (l.takeWhile notBreak).length + blankLen false (l.dropWhile notBreak)
  | [] => by simp [blankLen]
  | c :: t => by
    have ih := blankLen_remark t
    by_cases h : c = 10
    · subst h; simp [blankLen, notBreak, List.takeWhile, List.dropWhile]
    · have h2 : notBreak c = true := by simp [notBreak, h]
      simp [blankLen, List.takeWhile, List.dropWhile, h, h2, ih]; omega
theorem drop_takeWhile_length {α : Type} (p : α → Bool) (l : List α) : l.drop (l.takeWhile p).length = l.dropWhile p := by
  induction l with
  | nil => rfl
  | cons a t ih => simp only [List.takeWhile, List.dropWhile]; cases p a <;> simp [ih]
theorem blanksTo_end (s : ByteArray) (k : Nat) (h : s.size ≤ k) : blanksTo s k = k := by
  unfold blanksTo; rw [List.drop_of_length_le (by simpa using h)]; rfl
theorem blanksTo_blank (s : ByteArray) (k : Nat) (h : k < s.size) (hc : (s[k] == 32 || s[k] == 10 || s[k] == 9) = true) : blanksTo s (k + 1) = blanksTo s k := by
  unfold blanksTo; rw [drop_cons s k h]; simp only [blankLen]; rw [if_pos hc]; omega
theorem blanksTo_stop (s : ByteArray) (k : Nat) (h : k < s.size) (hc : (s[k] == 32 || s[k] == 10 || s[k] == 9) = false) (h2 : (s[k] == 35) = false) : blanksTo s k = k := by
  unfold blanksTo; rw [drop_cons s k h]; simp only [blankLen]; rw [if_neg (by simp [hc]), if_neg (by simp [h2])]; rfl
theorem blanksTo_remark (s : ByteArray) (k : Nat) (h : k < s.size) (h2 : (s[k] == 35) = true) : blanksTo s (runTo notBreak s k) = blanksTo s k := by
  have h3 : s[k] = 35 := by simpa using h2
  unfold blanksTo runTo
  rw [← List.drop_drop, drop_takeWhile_length, drop_cons s k h, h3]
  have hb : notBreak 35 = true := by decide
  simp only [blankLen, List.takeWhile, List.dropWhile, hb, List.length_cons]
  rw [if_neg (by decide), if_pos (by decide), blankLen_remark]; omega
theorem runTo_lt (p : UInt8 → Bool) (s : ByteArray) (k : Nat) (h : k < s.size) (hp : p s[k] = true) : k < runTo p s k := by
  rw [← runTo_step p s k h hp]; have := (runTo_le p s (k + 1) h).1; omega
theorem u8_eq (c : UInt8) (n : Nat) (h : n < 256) : (c == UInt8.ofNat n) = decide ((c.toNat : Int) = n) := by
  rw [Bool.eq_iff_iff]; simp [← UInt8.toNat_inj]
  rw [Nat.mod_eq_of_lt h]; omega
theorem blanksTo_blank' (s : ByteArray) (k : Nat) (h : k < s.size) (hc : (s[k].toNat : Int) = 32 ∨ (s[k].toNat : Int) = 10 ∨ (s[k].toNat : Int) = 9) : blanksTo s (k + 1) = blanksTo s k := by
  refine blanksTo_blank s k h ?_
  have := u8_eq s[k] 32 (by omega); have := u8_eq s[k] 10 (by omega); have := u8_eq s[k] 9 (by omega)
  simp_all; omega

/-! quotes -/
def hexDigit (n : Nat) : UInt8 := if n < 10 then UInt8.ofNat (48 + n) else UInt8.ofNat (87 + n)
def quoteByte (c : UInt8) : List UInt8 := if isPlain c then [c] else [92, 120, hexDigit (c.toNat / 16), hexDigit (c.toNat % 16)]
def quoteBody (l : List UInt8) : List UInt8 := l.flatMap quoteByte
def quoted (l : List UInt8) : List UInt8 := 34 :: (quoteBody l ++ [34])
theorem quoteByte_le (c : UInt8) : (quoteByte c).length ≤ 4 := by unfold quoteByte; split <;> simp
theorem quoteBody_le (l : List UInt8) : (quoteBody l).length ≤ 4 * l.length := by
  induction l with
  | nil => simp [quoteBody]
  | cons c t ih => have := quoteByte_le c; simp only [quoteBody, List.flatMap_cons, List.length_append, List.length_cons] at *; omega
theorem take_snoc (s : ByteArray) (k : Nat) (h : k < s.size) : s.data.toList.take (k + 1) = s.data.toList.take k ++ [s[k]] := by
  rw [List.take_succ_eq_append_getElem (by simpa using h)]; rfl
theorem quoteBody_snoc (l : List UInt8) (c : UInt8) : quoteBody (l ++ [c]) = quoteBody l ++ quoteByte c := by simp [quoteBody]
theorem hexIdx (n : Nat) (h : n < 16) : (⟨#[48, 49, 50, 51, 52, 53, 54, 55, 56, 57, 97, 98, 99, 100, 101, 102]⟩ : ByteArray)[n]'h = hexDigit n := by
  have key : ∀ m : Fin 16, (⟨#[48, 49, 50, 51, 52, 53, 54, 55, 56, 57, 97, 98, 99, 100, 101, 102]⟩ : ByteArray)[m.1]'m.2 = hexDigit m.1 := by decide
  exact key ⟨n, h⟩

/-- A sign's worth as a hexadecimal digit; -1: it is none. -/
def hexVal (c : UInt8) : Int := if 48 ≤ c.toNat ∧ c.toNat ≤ 57 then (c.toNat : Int) - 48 else if 97 ≤ c.toNat ∧ c.toNat ≤ 102 then (c.toNat : Int) - 87 else -1
def hexSigns : List UInt8 := [48, 49, 50, 51, 52, 53, 54, 55, 56, 57, 97, 98, 99, 100, 101, 102]
theorem u8_all {p : UInt8 → Prop} (h : ∀ n : Fin 256, p (UInt8.ofNat n.1)) (c : UInt8) : p c := by
  have := h ⟨c.toNat, c.toNat_lt⟩
  simpa using this
theorem indexByte_hex (c : UInt8) : Lib.indexByte hexSigns c = hexVal c := by
  refine u8_all (p := fun c => Lib.indexByte hexSigns c = hexVal c) ?_ c
  decide +kernel
theorem hexVal_lt (c : UInt8) : -1 ≤ hexVal c ∧ hexVal c ≤ 15 := by
  unfold hexVal; repeat' split
  all_goals omega
/-- The byte that two signs behind a backslash and an x are. -/
def escapeVal : List UInt8 → Option UInt8
  | a :: b :: _ => if 0 ≤ hexVal a ∧ 0 ≤ hexVal b then some (UInt8.ofNat (16 * (hexVal a).toNat + (hexVal b).toNat)) else none
  | _ => none

/-- What stands behind an opening quote: the text, and how many bytes it takes with the closing quote. -/
def unq : List UInt8 → Option (List UInt8 × Nat)
  | [] => none
  | c :: t =>
    if c == 34 then some ([], 1)
    else if c == 92 then
      match t with
      | x :: a :: b :: t' =>
        if x == 120 then
          match escapeVal [a, b] with
          | some v => if isPlain v then none else (unq t').map fun p => (v :: p.1, p.2 + 4)
          | none => none
        else none
      | _ => none
    else if isPlain c then (unq t).map fun p => (c :: p.1, p.2 + 1) else none
def unqAt (s : ByteArray) (i : Nat) : Option (List UInt8 × Nat) := (unq (s.data.toList.drop i)).map fun p => (p.1, i + p.2)
theorem unq_cons (c : UInt8) (t : List UInt8) : unq (c :: t) =
    if c == 34 then some ([], 1)
    else if c == 92 then
      match t with
      | x :: a :: b :: t' =>
        if x == 120 then
          match escapeVal [a, b] with
          | some v => if isPlain v then none else (unq t').map fun p => (v :: p.1, p.2 + 4)
          | none => none
        else none
      | _ => none
    else if isPlain c then (unq t).map fun p => (c :: p.1, p.2 + 1) else none := by rw [unq.eq_def]
theorem map_map_eq {α β γ δ : Type} {f : α → β} {g : β → γ} {f' : α → δ} {g' : δ → γ} (o : Option α) (h : ∀ a, g (f a) = g' (f' a)) : (o.map f).map g = (o.map f').map g' := by
  cases o <;> simp [h]
theorem unqAt_end (s : ByteArray) (i : Nat) (h : s.size ≤ i) : unqAt s i = none := by
  unfold unqAt; rw [List.drop_of_length_le (by simpa using h)]; simp [unq]
theorem unqAt_close (s : ByteArray) (i : Nat) (h : i < s.size) (hc : s[i] = 34) : unqAt s i = some ([], i + 1) := by
  unfold unqAt; rw [drop_cons s i h, unq_cons, hc]; simp
theorem unqAt_plain (s : ByteArray) (i : Nat) (h : i < s.size) (hc : s[i] ≠ 34) (h2 : s[i] ≠ 92) (hp : isPlain s[i] = true) :
    unqAt s i = (unqAt s (i + 1)).map fun p => (s[i] :: p.1, p.2) := by
  unfold unqAt; rw [drop_cons s i h, unq_cons, if_neg (by simpa using hc), if_neg (by simpa using h2), if_pos hp]
  refine map_map_eq _ fun a => ?_
  simp only [Prod.mk.injEq]; exact ⟨trivial, by omega⟩
theorem unqAt_odd (s : ByteArray) (i : Nat) (h : i < s.size) (hc : s[i] ≠ 34) (h2 : s[i] ≠ 92) (hp : isPlain s[i] = false) : unqAt s i = none := by
  unfold unqAt; rw [drop_cons s i h, unq_cons, if_neg (by simpa using hc), if_neg (by simpa using h2), if_neg (by simp [hp])]; rfl
theorem unqAt_cut (s : ByteArray) (i : Nat) (h : i < s.size) (h2 : s[i] = 92) (h3 : s.size < i + 4) : unqAt s i = none := by
  have hl : (s.data.toList.drop (i + 1)).length < 3 := by simp [Array.length_toList]; have : s.data.size = s.size := rfl; omega
  unfold unqAt; rw [drop_cons s i h, h2]
  generalize s.data.toList.drop (i + 1) = l at *
  match l, hl with
  | [], _ => rfl
  | [_], _ => rfl
  | [_, _], _ => rfl
theorem unqAt_esc (s : ByteArray) (i : Nat) (h : i + 3 < s.size) (h2 : s[i] = 92) : unqAt s i =
    if s[i + 1] = 120 then (match escapeVal [s[i + 2], s[i + 3]] with
      | some v => if isPlain v then none else (unqAt s (i + 4)).map fun p => (v :: p.1, p.2)
      | none => none) else none := by
  unfold unqAt; rw [drop_cons s i (by omega), drop_cons s (i + 1) (by omega), drop_cons s (i + 2) (by omega), drop_cons s (i + 3) h, unq_cons, h2, if_neg (by decide), if_pos (by decide)]
  by_cases h1 : s[i + 1] = 120
  · simp only [h1, beq_self_eq_true, if_true]
    cases escapeVal [s[i + 2], s[i + 3]] with
    | none => rfl
    | some v =>
      dsimp only
      by_cases hp : isPlain v = true
      · rw [if_pos hp, if_pos hp]; rfl
      · rw [if_neg hp, if_neg hp]
        refine map_map_eq _ fun a => ?_
        simp only [Prod.mk.injEq]; exact ⟨trivial, by omega⟩
  · rw [if_neg h1]; dsimp only; rw [if_neg (by simpa using h1)]; rfl
theorem u8_ne (c d : UInt8) (h : c ≠ d) : ((c.toNat : Int) == (d.toNat : Int)) = false := by
  have : c.toNat ≠ d.toNat := fun e => h (UInt8.toNat_inj.1 e)
  simp; omega
theorem u8_eq' (c d : UInt8) (h : c = d) : ((c.toNat : Int) == (d.toNat : Int)) = true := by rw [h]; simp
theorem u8_bne (c d : UInt8) (h : c ≠ d) : ((c.toNat : Int) != (d.toNat : Int)) = true := by simp [bne, u8_ne c d h]
theorem u8_bneF (c d : UInt8) (h : c = d) : ((c.toNat : Int) != (d.toNat : Int)) = false := by simp [bne, h]
theorem unqAt_no120 (s : ByteArray) (i : Nat) (h : i + 1 < s.size) (h2 : s[i] = 92) (h3 : s[i + 1] ≠ 120) : unqAt s i = none := by
  by_cases h4 : i + 3 < s.size
  · rw [unqAt_esc s i h4 h2, if_neg h3]
  · exact unqAt_cut s i (by omega) h2 (by omega)
theorem extract_get (s : ByteArray) (a j : Nat) (h : a + j < s.size) (hj : j < (s.extract a s.size).size) : (s.extract a s.size)[j] = s[a + j] := by
  simp [ByteArray.getElem_extract]
theorem extract_size (s : ByteArray) (a : Nat) (h : a ≤ s.size) : (s.extract a s.size).size = s.size - a := by simp

/-! tokens -/
def isMark (c : UInt8) : Bool := c == 61 || c == 44 || c == 40 || c == 41 || c == 91 || c == 93 || c == 59
/-- The token that begins at byte j: its kind, its text, where it ends. -/
def tokAt (s : ByteArray) (j : Nat) : Option (Int × List UInt8 × Nat) :=
  match s.data.toList.drop j with
  | [] => none
  | c :: t =>
    if isLetter c then some (0, (c :: t).takeWhile isWord, runTo isWord s j)
    else if isDigit c || c == 45 then
      if c == 45 && (t.takeWhile isDigit).isEmpty then none else some (1, c :: t.takeWhile isDigit, runTo isDigit s (j + 1))
    else if c == 34 then (unqAt s (j + 1)).map fun p => (2, p.1, p.2)
    else if isMark c then some (3, [c], j + 1) else none
theorem indexByte_mark (c : UInt8) : decide (0 ≤ Lib.indexByte [61, 44, 40, 41, 91, 93, 59] c) = isMark c := by
  refine u8_all (p := fun c => decide (0 ≤ Lib.indexByte [61, 44, 40, 41, 91, 93, 59] c) = isMark c) ?_ c
  decide +kernel
theorem extract_run (p : UInt8 → Bool) (s : ByteArray) (k : Nat) : s.extract k (runTo p s k) = ⟨((s.data.toList.drop k).takeWhile p).toArray⟩ := by
  have h : (s.extract k (runTo p s k)).data.toList = (s.data.toList.drop k).takeWhile p := by
    simp only [ByteArray.data_extract, Array.toList_extract, List.extract_eq_take_drop]
    unfold runTo
    rw [show k + ((s.data.toList.drop k).takeWhile p).length - k = ((s.data.toList.drop k).takeWhile p).length by omega]
    exact (List.prefix_iff_eq_take.1 (List.takeWhile_prefix p)).symm
  have h2 : (s.extract k (runTo p s k)).data = ((s.data.toList.drop k).takeWhile p).toArray := by rw [← h]
  cases he : s.extract k (runTo p s k)
  rw [he] at h2
  exact congrArg ByteArray.mk h2
theorem ba_ext {a b : ByteArray} (h : a.data.toList = b.data.toList) : a = b := by
  cases a; cases b; congr 1; exact Array.toList_inj.1 h
theorem extract_list (s : ByteArray) (a b : Nat) : (s.extract a b).data.toList = (s.data.toList.drop a).take (b - a) := by
  simp only [ByteArray.data_extract, Array.toList_extract, List.extract_eq_take_drop]
theorem extract_one (s : ByteArray) (j : Nat) (h : j < s.size) : s.extract j (j + 1) = ⟨[s[j]].toArray⟩ := by
  apply ba_ext
  rw [extract_list, drop_cons s j h, show j + 1 - j = 1 by omega]; rfl
theorem num_text (s : ByteArray) (j : Nat) (h : j < s.size) :
    s.extract j (max (j + 1) (runTo isDigit s (j + 1))) = ⟨(s[j] :: (s.data.toList.drop (j + 1)).takeWhile isDigit).toArray⟩ := by
  have hr := (runTo_le isDigit s (j + 1) (by omega)).1
  rw [Nat.max_eq_right hr]
  apply ba_ext
  rw [extract_list, drop_cons s j h]
  have e : runTo isDigit s (j + 1) - j = ((s.data.toList.drop (j + 1)).takeWhile isDigit).length + 1 := by unfold runTo; omega
  rw [e, List.take_succ_cons]
  simp only [List.toList_toArray]
  congr 1
  exact (List.prefix_iff_eq_take.1 (List.takeWhile_prefix isDigit)).symm
theorem num_bare (c : UInt8) (l : List UInt8) : ((⟨(c :: l).toArray⟩ : ByteArray).toList == [45]) = (c == 45 && l.isEmpty) := by
  rw [Lib.toList_data]
  cases l with
  | nil => simp
  | cons a t => simp
theorem unq_le : ∀ (n : Nat) (l : List UInt8) (t : List UInt8) (k : Nat), l.length ≤ n → unq l = some (t, k) → 0 < k ∧ k ≤ l.length := by
  intro n
  induction n with
  | zero => intro l t k hl h; cases l with
    | nil => simp [unq] at h
    | cons => simp at hl
  | succ n ih =>
    intro l t k hl h
    cases l with
    | nil => simp [unq] at h
    | cons c l =>
      rw [unq_cons] at h
      split at h
      · simp at h; simp; omega
      · split at h
        · match l, h with
          | x :: a :: b :: l', h =>
            dsimp only at h
            split at h
            · split at h
              · split at h
                · simp at h
                · cases hu : unq l' with
                  | none => rw [hu] at h; simp at h
                  | some p =>
                    rw [hu] at h; simp at h
                    have := ih l' p.1 p.2 (by simp at hl; omega) (by rw [hu])
                    simp; omega
              · simp at h
            · simp at h
          | [], h => simp at h
          | [_], h => simp at h
          | [_, _], h => simp at h
        · split at h
          · cases hu : unq l with
            | none => rw [hu] at h; simp at h
            | some p =>
              rw [hu] at h; simp at h
              have := ih l p.1 p.2 (by simp at hl; omega) (by rw [hu])
              simp; omega
          · simp at h
theorem unqAt_le (s : ByteArray) (i : Nat) (t : List UInt8) (e : Nat) (hi : i ≤ s.size) (h : unqAt s i = some (t, e)) : i < e ∧ e ≤ s.size := by
  unfold unqAt at h
  cases hu : unq (s.data.toList.drop i) with
  | none => rw [hu] at h; simp at h
  | some p =>
    rw [hu] at h; simp at h
    have := unq_le _ _ p.1 p.2 (Nat.le_refl _) (by rw [hu])
    simp only [List.length_drop, Array.length_toList] at this
    have : s.data.size = s.size := rfl
    omega
theorem tokAt_le (s : ByteArray) (j : Nat) (k : Int) (t : List UInt8) (e : Nat) (hj : j < s.size) (h : tokAt s j = some (k, t, e)) : j < e ∧ e ≤ s.size := by
  unfold tokAt at h
  rw [drop_cons s j hj] at h
  dsimp only at h
  split at h
  · rename_i hl
    simp at h
    have h1 := runTo_lt isWord s j hj (by simp [isWord, hl])
    have h2 := (runTo_le isWord s j (by omega)).2
    omega
  · split at h
    · split at h
      · simp at h
      · simp at h
        have := runTo_le isDigit s (j + 1) (by omega)
        omega
    · split at h
      · cases hu : unqAt s (j + 1) with
        | none => rw [hu] at h; simp at h
        | some p =>
          rw [hu] at h; simp at h
          have := unqAt_le s (j + 1) p.1 p.2 (by omega) (by rw [hu])
          omega
      · split at h
        · simp at h; omega
        · simp at h

/-! numbers -/
def digVal (c : UInt8) : Nat := (c.toNat + 208) % 256
def digFold : Nat → List UInt8 → Option Nat
  | n, [] => some n
  | n, c :: t => if n > (18446744073709551615 - digVal c) / 10 then none else digFold (10 * n + digVal c) t
def digitsOf : List UInt8 → Option Nat
  | [] => none
  | c :: t => if (0 < t.length ∧ c = 48) ∨ 20 < t.length + 1 then none else digFold 0 (c :: t)
theorem digFold_lt : ∀ (l : List UInt8) (n m : Nat), n < 18446744073709551616 → digFold n l = some m → m < 18446744073709551616
  | [], n, m, hn, h => by simp [digFold] at h; omega
  | c :: t, n, m, hn, h => by
    have hd : digVal c < 256 := Nat.mod_lt _ (by decide)
    unfold digFold at h
    split at h
    · simp at h
    · exact digFold_lt t _ m (by omega) h
theorem digVal_int (c : UInt8) : ((digVal c : Nat) : Int) = ((c.toNat : Int) - 48) % 256 := by
  unfold digVal; have := c.toNat_lt; omega
theorem digFold_big {c : UInt8} {N : Nat} (t : List UInt8) (h : (18446744073709551615 - ((c.toNat : Int) - 48) % 256) / 10 < (N : Int)) : digFold N (c :: t) = none := by
  rw [← digVal_int] at h
  have hd : digVal c < 256 := Nat.mod_lt _ (by decide)
  unfold digFold; rw [if_pos (by omega)]
theorem digFold_next {c : UInt8} {N : Nat} (t : List UInt8) (h : (N : Int) ≤ (18446744073709551615 - ((c.toNat : Int) - 48) % 256) / 10) :
    digFold N (c :: t) = digFold (10 * N + digVal c) t ∧ 10 * N + digVal c < 18446744073709551616 ∧ 10 * (N : Int) + ((c.toNat : Int) - 48) % 256 = ((10 * N + digVal c : Nat) : Int) := by
  rw [← digVal_int] at h
  have hd : digVal c < 256 := Nat.mod_lt _ (by decide)
  refine ⟨?_, by omega, by rw [← digVal_int]; omega⟩
  rw [digFold, if_neg (by omega)]
/-- The whole number that a number's sign and digits are. -/
def numPos (n : Nat) : Option Int := if 9223372036854775808 ≤ n then none else some (n : Int)
def numNeg (n : Nat) : Option Int := if n = 0 ∨ 9223372036854775808 < n then none else some (-(n : Int))
def numVal (l : List UInt8) : Option Int := if l.head? = some 45 then (digitsOf l.tail).bind numNeg else (digitsOf l).bind numPos
theorem ext_tail (s : ByteArray) : (s.extract 1 s.size).data.toList = s.data.toList.tail := by
  rw [extract_list, List.drop_one, List.take_of_length_le (by simp)]
theorem head_get (s : ByteArray) (h : 0 < s.size) : s.data.toList.head? = some s[0] := by
  have e := drop_cons s 0 h
  rw [List.drop_zero] at e
  rw [e]; rfl

end Go.Proofs.Ytokkjnfdfbpphaa.A
namespace Go.Proofs.Ytokkjnfdfbpphaa.A
open Go.RowKit Go.Proofs.YtokkjnfdfbpphaaW.PrintWords Go.Proofs.YtokkjnfdfbpphaaW.PrintLast Go.Proofs.YtokkjnfdfbpphaaW.PrintMore
attribute [local go_sem] max2_int min2_int max_two min_two max_three min_three max_four min_four   -- for this text's walks alone
set_option linter.unusedVariables false
set_option linter.unusedSimpArgs false

/-- All tokens from byte i on; else at which byte what is none begins. -/
def lexAll : Nat → ByteArray → Nat → Except Nat (List S28)
  | 0, _, _ => .ok []
  | n + 1, s, i =>
    if blanksTo s i = s.size then .ok []
    else match tokAt s (blanksTo s i) with
      | none => .error (blanksTo s i)
      | some (k, t, e) => (lexAll n s e).map fun l => (⟨k, ⟨t.toArray⟩, (blanksTo s i : Int)⟩ : S28) :: l
def lexed (s : ByteArray) : Except Nat (List S28) := lexAll (s.size + 1) s 0
theorem except_map_map {ε α β γ : Type} (x : Except ε α) (f : α → β) (g : β → γ) : (x.map f).map g = x.map fun a => g (f a) := by cases x <;> rfl
theorem info28 : (Try.prog.info? 28).map (fun i => (i.zero, i.size, i.bytes)) = some (some (.agg #[(.int .i64 0), (.string ⟨#[]⟩), (.int .i64 0)]), 3, 32) := by kernel_rfl

end Go.Proofs.Ytokkjnfdfbpphaa.A
namespace Go.Proofs.Ytokkjnfdfbpphaa.A
open Go.RowKit Go.Proofs.YtokkjnfdfbpphaaW.PrintWords Go.Proofs.YtokkjnfdfbpphaaW.PrintLast Go.Proofs.YtokkjnfdfbpphaaW.PrintMore
attribute [local go_sem] max2_int min2_int max_two min_two max_three min_three max_four min_four   -- for this text's walks alone
set_option linter.unusedVariables false
set_option linter.unusedSimpArgs false

/-- A state of type 74 at block g of W; what its slices lead to came in by w0. -/
def IsS74 (w0 W : World) (g : Nat) (f0 : List (S28)) (f1 : Int) (f2 : Int) (f3 : Int) : Prop := ∃ A0 c0, W.heap[g]? = some (.cells #[.slice A0 f0.length c0, .int .i64 f1, .int .i64 f2, .int .i64 f3] 74 (0, 0)) ∧ w0.heap.size ≤ g ∧ Kd.C k28 w0 A0 f0.length f0
theorem IsS74.grown {w0 W : World} {g : Nat} {f0 : List (S28)} {f1 : Int} {f2 : Int} {f3 : Int} {W1 : World} {row : Option Nat} (h : IsS74 w0 W g f0 f1 f2 f3) (hw : W.grownBy W1 row) (hne : some g ≠ row) : IsS74 w0 W1 g f0 f1 f2 f3 := by
  obtain ⟨A0, c0, hb, hg, hr0⟩ := h
  exact ⟨A0, c0, blk_grown hb hw hne, hg, hr0⟩
theorem IsS74.own_neN {w0 W : World} {g : Nat} {f0 : List (S28)} {f1 : Int} {f2 : Int} {f3 : Int} {α : Type} {d : Kd α} {e : Nat} {base : Nat} {ok : Nat → Prop} {v : Value} {xs : List α} (h : IsS74 w0 W g f0 f1 f2 f3) (ho : Kd.N d e W base ok v xs) (ht : e ≠ 74) : some g ≠ v.ownBlock := by
  obtain ⟨A0, c0, hb, hg, hr0⟩ := h
  exact Kd.N_ne ho hb ht
theorem IsS74.fresh {w0 W : World} {g : Nat} {f0 : List (S28)} {f1 : Int} {f2 : Int} {f3 : Int} (h : IsS74 w0 W g f0 f1 f2 f3) : ∀ k, W.heap.size ≤ k → k ≠ g := by
  obtain ⟨A0, c0, hb, hg, hr0⟩ := h
  exact Kd.freshB hb
theorem IsS74.kept {w0 W : World} {g : Nat} {f0 : List (S28)} {f1 : Int} {f2 : Int} {f3 : Int} {W1 : World} {S : Nat → Prop} (h : IsS74 w0 W g f0 f1 f2 f3) (hk : Kept W W1 S) (hne : ¬ S g) : IsS74 w0 W1 g f0 f1 f2 f3 := by
  obtain ⟨A0, c0, hb, hg, hr0⟩ := h
  exact ⟨A0, c0, blk_kept hb hk hne, hg, hr0⟩
theorem IsS74.below {w0 W : World} {g : Nat} {f0 : List (S28)} {f1 : Int} {f2 : Int} {f3 : Int} {W1 : World} (h : IsS74 w0 W g f0 f1 f2 f3) (hw : Below W.heap.size W W1) : IsS74 w0 W1 g f0 f1 f2 f3 := h.grown (grown_of_below hw none) (by simp)
theorem IsS74.alloc {w0 W : World} {g : Nat} {f0 : List (S28)} {f1 : Int} {f2 : Int} {f3 : Int} (h : IsS74 w0 W g f0 f1 f2 f3) (o : Obj) : IsS74 w0 (W.alloc o) g f0 f1 f2 f3 := h.below (below_alloc (Below.refl _ _) o)
theorem IsS74.drewN {w0 W : World} {g : Nat} {f0 : List (S28)} {f1 : Int} {f2 : Int} {f3 : Int} (h : IsS74 w0 W g f0 f1 f2 f3) (m : Nat) : IsS74 w0 (W.drewN m) g f0 f1 f2 f3 := h
theorem IsS74.drew {w0 W : World} {g : Nat} {f0 : List (S28)} {f1 : Int} {f2 : Int} {f3 : Int} (h : IsS74 w0 W g f0 f1 f2 f3) : IsS74 w0 W.drew g f0 f1 f2 f3 := h
theorem IsS74.at_ {w0 W : World} {g : Nat} {f0 : List (S28)} {f1 : Int} {f2 : Int} {f3 : Int} {w' : World} {m : Nat} (hq : W.drewN m = w') (h : IsS74 w0 W g f0 f1 f2 f3) : IsS74 w0 w' g f0 f1 f2 f3 := by subst hq; exact IsS74.drewN h m
theorem IsS74.apart {w0 W : World} {g : Nat} {f0 : List (S28)} {f1 : Int} {f2 : Int} {f3 : Int} {α : Type} {d : Kd α} {e : Nat} {base : Nat} {ok : Nat → Prop} {v : Value} {xs : List α} (h : IsS74 w0 W g f0 f1 f2 f3) (ho : d.R e W base ok v xs) (ht : ∀ q, q ∈ e :: d.E → q ≠ 74) : d.R e W base (fun k => ok k ∧ k ≠ g) v xs := by
  obtain ⟨A0, c0, hb, hg, hr0⟩ := h
  exact Kd.R_types ho hb ht
theorem IsS74.own_ne {w0 W : World} {g : Nat} {f0 : List (S28)} {f1 : Int} {f2 : Int} {f3 : Int} {α : Type} {d : Kd α} {e : Nat} {base : Nat} {ok : Nat → Prop} {v : Value} {xs : List α} (h : IsS74 w0 W g f0 f1 f2 f3) (ho : d.R e W base ok v xs) (ht : e ≠ 74) : some g ≠ v.ownBlock := by
  obtain ⟨A0, c0, hb, hg, hr0⟩ := h
  exact Kd.R_ne ho hb ht
theorem IsS74.apartQ {w0 W : World} {g : Nat} {f0 : List (S28)} {f1 : Int} {f2 : Int} {f3 : Int} {α : Type} {d : Kd α} {e : Nat} {base : Nat} {ok : Nat → Prop} {v : Value} {xs : List α} (h : IsS74 w0 W g f0 f1 f2 f3) (ho : d.Q e W base ok v xs) (ht : ∀ q, q ∈ e :: d.E → q ≠ 74) : d.Q e W base (fun k => ok k ∧ k ≠ g) v xs := by
  obtain ⟨A0, c0, hb, hg, hr0⟩ := h
  exact Kd.Q_types ho hb ht
theorem IsS74.own_neQ {w0 W : World} {g : Nat} {f0 : List (S28)} {f1 : Int} {f2 : Int} {f3 : Int} {α : Type} {d : Kd α} {e : Nat} {base : Nat} {ok : Nat → Prop} {v : Value} {xs : List α} (h : IsS74 w0 W g f0 f1 f2 f3) (ho : d.Q e W base ok v xs) (ht : e ≠ 74) : some g ≠ v.ownBlock := by
  obtain ⟨A0, c0, hb, hg, hr0⟩ := h
  exact Kd.Q_ne ho hb ht
theorem IsS74.apartS {w0 W : World} {g : Nat} {f0 : List (S28)} {f1 : Int} {f2 : Int} {f3 : Int} {α : Type} {d : Kd α} {e : Nat} {base : Nat} {ok : Nat → Prop} {v : Value} {xs : List α} (h : IsS74 w0 W g f0 f1 f2 f3) (ho : d.S e W base ok v xs) (ht : ∀ q, q ∈ e :: d.E → q ≠ 74) : d.S e W base (fun k => ok k ∧ k ≠ g) v xs := by
  obtain ⟨A0, c0, hb, hg, hr0⟩ := h
  exact Kd.S_types ho hb ht
theorem IsS74.own_neS {w0 W : World} {g : Nat} {f0 : List (S28)} {f1 : Int} {f2 : Int} {f3 : Int} {α : Type} {d : Kd α} {e : Nat} {base : Nat} {ok : Nat → Prop} {v : Value} {xs : List α} (h : IsS74 w0 W g f0 f1 f2 f3) (ho : d.S e W base ok v xs) (ht : e ≠ 74) : some g ≠ v.ownBlock := by
  obtain ⟨A0, c0, hb, hg, hr0⟩ := h
  exact Kd.S_ne ho hb ht
theorem IsS74.lt {w0 W : World} {g : Nat} {f0 : List (S28)} {f1 : Int} {f2 : Int} {f3 : Int} (h : IsS74 w0 W g f0 f1 f2 f3) : g < W.heap.size := by
  obtain ⟨A0, c0, hb, hg, hr0⟩ := h
  exact blk_lt hb
theorem IsS74.ge {w0 W : World} {g : Nat} {f0 : List (S28)} {f1 : Int} {f2 : Int} {f3 : Int} (h : IsS74 w0 W g f0 f1 f2 f3) : w0.heap.size ≤ g := by
  obtain ⟨A0, c0, hb, hg, hr0⟩ := h
  exact hg
theorem IsS74.ne_blk {w0 W : World} {g : Nat} {f0 : List (S28)} {f1 : Int} {f2 : Int} {f3 : Int} {a : Nat} {cs : Array Value} {t : TypeId} {fr : Nat × Nat} (h : IsS74 w0 W g f0 f1 f2 f3) (hb2 : W.heap[a]? = some (.cells cs t fr)) (ht : t ≠ 74) : g ≠ a := by
  obtain ⟨A0, c0, hb, hg, hr0⟩ := h
  rintro rfl
  rw [hb] at hb2
  injection hb2 with hb2
  injection hb2 with _ ht2
  exact ht ht2.symm
theorem IsS74.far {w0 W : World} {g : Nat} {f0 : List (S28)} {f1 : Int} {f2 : Int} {f3 : Int} {p : Addr} (h : IsS74 w0 W g f0 f1 f2 f3) (hne : g ≠ p.block) (u : Value) : IsS74 w0 (W.setCell p u) g f0 f1 f2 f3 := by
  obtain ⟨A0, c0, hb, hg, hr0⟩ := h
  exact ⟨A0, c0, blk_far hb hne u, hg, hr0⟩
theorem cellS74_0 {W : World} {g : Nat} {A0 : Option Addr} {c0 : Nat} {f0 : List (S28)} {f1 : Int} {f2 : Int} {f3 : Int} (h : W.heap[g]? = some (.cells #[.slice A0 f0.length c0, .int .i64 f1, .int .i64 f2, .int .i64 f3] 74 (0, 0))) : W.cell? ⟨g, 0, none⟩ = some (.slice A0 f0.length c0) := (blk_cell h 0).trans rfl
theorem cellS74_1 {W : World} {g : Nat} {A0 : Option Addr} {c0 : Nat} {f0 : List (S28)} {f1 : Int} {f2 : Int} {f3 : Int} (h : W.heap[g]? = some (.cells #[.slice A0 f0.length c0, .int .i64 f1, .int .i64 f2, .int .i64 f3] 74 (0, 0))) : W.cell? ⟨g, 1, none⟩ = some (.int .i64 f1) := (blk_cell h 1).trans rfl
theorem IsS74.set_1 {w0 W : World} {g : Nat} {f0 : List (S28)} {f1 : Int} {f2 : Int} {f3 : Int} (h : IsS74 w0 W g f0 f1 f2 f3) (x : Int) : IsS74 w0 (W.setCell ⟨g, 1, none⟩ (.int .i64 x)) g f0 x f2 f3 := by
  obtain ⟨A0, c0, hb, hg, hr0⟩ := h
  exact ⟨A0, c0, by simpa using blk_set hb 1 (.int .i64 x), hg, hr0⟩
theorem cellS74_2 {W : World} {g : Nat} {A0 : Option Addr} {c0 : Nat} {f0 : List (S28)} {f1 : Int} {f2 : Int} {f3 : Int} (h : W.heap[g]? = some (.cells #[.slice A0 f0.length c0, .int .i64 f1, .int .i64 f2, .int .i64 f3] 74 (0, 0))) : W.cell? ⟨g, 2, none⟩ = some (.int .i64 f2) := (blk_cell h 2).trans rfl
theorem IsS74.set_2 {w0 W : World} {g : Nat} {f0 : List (S28)} {f1 : Int} {f2 : Int} {f3 : Int} (h : IsS74 w0 W g f0 f1 f2 f3) (x : Int) : IsS74 w0 (W.setCell ⟨g, 2, none⟩ (.int .i64 x)) g f0 f1 x f3 := by
  obtain ⟨A0, c0, hb, hg, hr0⟩ := h
  exact ⟨A0, c0, by simpa using blk_set hb 2 (.int .i64 x), hg, hr0⟩
theorem cellS74_3 {W : World} {g : Nat} {A0 : Option Addr} {c0 : Nat} {f0 : List (S28)} {f1 : Int} {f2 : Int} {f3 : Int} (h : W.heap[g]? = some (.cells #[.slice A0 f0.length c0, .int .i64 f1, .int .i64 f2, .int .i64 f3] 74 (0, 0))) : W.cell? ⟨g, 3, none⟩ = some (.int .i64 f3) := (blk_cell h 3).trans rfl
theorem IsS74.set_3 {w0 W : World} {g : Nat} {f0 : List (S28)} {f1 : Int} {f2 : Int} {f3 : Int} (h : IsS74 w0 W g f0 f1 f2 f3) (x : Int) : IsS74 w0 (W.setCell ⟨g, 3, none⟩ (.int .i64 x)) g f0 f1 f2 x := by
  obtain ⟨A0, c0, hb, hg, hr0⟩ := h
  exact ⟨A0, c0, by simpa using blk_set hb 3 (.int .i64 x), hg, hr0⟩
theorem IsS74.new (w0 W : World) (A0 : Option Addr) (c0 : Nat) (f0 : List (S28)) (f1 : Int) (f2 : Int) (f3 : Int) (hB : Below w0.heap.size w0 W) (hr0 : Kd.C k28 w0 A0 f0.length f0) : IsS74 w0 (W.alloc (.cells #[.slice A0 f0.length c0, .int .i64 f1, .int .i64 f2, .int .i64 f3] 74)) W.heap.size f0 f1 f2 f3 := ⟨A0, c0, by simpa using heap_alloc_new W _, hB.size, hr0⟩

/-! ### say_parser_here: function 68 -/
def say_parser_here.f (s0_0 : List (S28)) (s0_1 : Int) (s0_2 : Int) (s0_3 : Int) : Option (Int × Int × Int × Int) := if s0_1 < (s0_0.length : Int) then (if 0 ≤ s0_1 then (some ((rd_T28 s0_0 s0_1).f2, s0_1, s0_2, s0_3)) else (none)) else (some (s0_2, s0_1, s0_2, s0_3))
set_option maxHeartbeats 8000000 in
set_option maxRecDepth 100000 in
theorem say_parser_here.calls (g : Nat) (s0_0 : List (S28)) (s0_1 : Int) (s0_2 : Int) (s0_3 : Int) (r1 : Int) (r2 : Int) (r3 : Int) (r4 : Int) (w0 w : World) (hI : IsS74 w0 w g s0_0 s0_1 s0_2 s0_3) (hB : Below w0.heap.size w0 w) (h : say_parser_here.f s0_0 s0_1 s0_2 s0_3 = some (r1, r2, r3, r4)) :
    Calls Try.prog 68 #[.pointer (some ⟨g, 0, none⟩)] w fun e w' => e = .returned (.int .i64 r1) ∧ IsS74 w0 w' g s0_0 r2 r3 r4 ∧ Below w0.heap.size w0 w' ∧ KeepBut w w' g none := by
  have HI0 := Aside0.mk hI
  have HK := Aside0.mk (KeepBut.refl w g none)
  have HL := Aside0.mk hB.size
  clear hI
  have HW0 := Aside0.mk hB.size
  have HB := Aside0.mk hB
  clear hB
  have H : (if s0_1 < (s0_0.length : Int) then (if 0 ≤ s0_1 then (some ((rd_T28 s0_0 s0_1).f2, s0_1, s0_2, s0_3)) else (none)) else (some (s0_2, s0_1, s0_2, s0_3))) = some (r1, r2, r3, r4) := h
  clear h
  by_cases c2 : s0_1 < (s0_0.length : Int)
  · rw [if_pos c2] at H
    have c2b0 : decide (s0_1 < (s0_0.length : Int)) = true := decide_eq_true c2
    clear c2
    by_cases c3 : 0 ≤ s0_1
    · rw [if_pos c3] at H
      have c3b0 : decide (0 ≤ s0_1) = true := decide_eq_true c3
      clear c3
      simp only [Option.some.injEq, Prod.mk.injEq] at H
      obtain ⟨rfl, rfl, rfl, rfl⟩ := H
      obtain ⟨ASz4_0, cSz4_0, HGz4, hgz4, HSz4_0⟩ := HI0.out
      have hcz4_0 := cellS74_0 HGz4
      have hcz4_1 := cellS74_1 HGz4
      have hcz4_2 := cellS74_2 HGz4
      have hcz4_3 := cellS74_3 HGz4
      have hfz4_1 := blk_frozen HGz4 1
      have hfz4_2 := blk_frozen HGz4 2
      have hfz4_3 := blk_frozen HGz4 3
      clear HGz4 hgz4
      have p125 : 0 ≤ (s0_1 : Int) := of_decide_eq_true (by first | (with_reducible assumption) | assumption)
      have q125 : s0_1 < (s0_0.length : Int) := of_decide_eq_true (by first | (with_reducible assumption) | assumption)
      obtain ⟨ad125, e125, hx125_0, hx125_1, hx125_2⟩ := at_T28 HSz4_0 s0_1 p125 q125
      cases e125
      replace hx125_0 := pw_cell_below HB.out hx125_0
      replace hx125_1 := pw_cell_below HB.out hx125_1
      replace hx125_2 := pw_cell_below HB.out hx125_2
      replace p125 := eq_true p125
      replace q125 := eq_true q125
      go_enter Try.func68, Try.ntmps68
      go_wp2
      repeat (go_quiet (fail); try go_wp2)
      go_ret
      exact ⟨by first | rfl | (simp [errW_none, errW_some] <;> rfl) | (simp [*, errW_none, errW_some] <;> rfl), by repeat (first | (with_reducible first | exact HI0.out | apply IsS74.alloc | apply IsS74.drewN | apply IsS74.drew | apply IsS74.set_1 | apply IsS74.set_2 | apply IsS74.set_3) | exact HI0.out), by repeat (first | (with_reducible first | exact HB.out | apply below_alloc | apply pw_below_drewN | apply below_drew1 | refine below_set ?_ (IsS74.ge HI0.out)) | exact HB.out), by repeat (first | (with_reducible first | exact HK.out | apply KeepBut.set_ | apply keep_drewN | apply keep_drew | apply keep_alloc) | exact HK.out)⟩
    · rw [if_neg c3] at H
      exact absurd H (by simp)
  · rw [if_neg c2] at H
    have c2b0 : decide (s0_1 < (s0_0.length : Int)) = false := decide_eq_false c2
    clear c2
    simp only [Option.some.injEq, Prod.mk.injEq] at H
    obtain ⟨rfl, rfl, rfl, rfl⟩ := H
    obtain ⟨ASz5_0, cSz5_0, HGz5, hgz5, HSz5_0⟩ := HI0.out
    have hcz5_0 := cellS74_0 HGz5
    have hcz5_1 := cellS74_1 HGz5
    have hcz5_2 := cellS74_2 HGz5
    have hcz5_3 := cellS74_3 HGz5
    have hfz5_1 := blk_frozen HGz5 1
    have hfz5_2 := blk_frozen HGz5 2
    have hfz5_3 := blk_frozen HGz5 3
    clear HGz5 hgz5
    go_enter Try.func68, Try.ntmps68
    go_wp2
    repeat (go_quiet (fail); try go_wp2)
    go_ret
    exact ⟨by first | rfl | (simp [errW_none, errW_some] <;> rfl) | (simp [*, errW_none, errW_some] <;> rfl), by repeat (first | (with_reducible first | exact HI0.out | apply IsS74.alloc | apply IsS74.drewN | apply IsS74.drew | apply IsS74.set_1 | apply IsS74.set_2 | apply IsS74.set_3) | exact HI0.out), by repeat (first | (with_reducible first | exact HB.out | apply below_alloc | apply pw_below_drewN | apply below_drew1 | refine below_set ?_ (IsS74.ge HI0.out)) | exact HB.out), by repeat (first | (with_reducible first | exact HK.out | apply KeepBut.set_ | apply keep_drewN | apply keep_drew | apply keep_alloc) | exact HK.out)⟩

end Go.Proofs.Ytokkjnfdfbpphaa.A
namespace Go.Proofs.Ytokkjnfdfbpphaa.A
open Go.RowKit Go.Proofs.YtokkjnfdfbpphaaW.PrintWords Go.Proofs.YtokkjnfdfbpphaaW.PrintLast Go.Proofs.YtokkjnfdfbpphaaW.PrintMore
attribute [local go_sem] max2_int min2_int max_two min_two max_three min_three max_four min_four   -- for this text's walks alone
set_option linter.unusedVariables false
set_option linter.unusedSimpArgs false

/-- A parser's method under way: the parser's block, and a block of its own that holds what it will answer. -/
structure Fr (w0 w wc : World) (g : Nat) (s0 : List S28) (s1 s2 s3 : Int) (gb : Nat) (cs : Array Value) (T : TypeId) : Prop where
  i : IsS74 w0 wc g s0 s1 s2 s3
  b : Below w0.heap.size w0 wc
  k : KeepBut w wc g none
  ge : w.heap.size ≤ gb
  lt : w0.heap.size ≤ w.heap.size
  ne : gb ≠ g
  box : wc.heap[gb]? = some (.cells cs T (0, 0))
theorem Fr.drewN {w0 w wc : World} {g : Nat} {s0 : List S28} {s1 s2 s3 : Int} {gb : Nat} {cs : Array Value} {T : TypeId} (h : Fr w0 w wc g s0 s1 s2 s3 gb cs T) (n : Nat) : Fr w0 w (wc.drewN n) g s0 s1 s2 s3 gb cs T :=
  ⟨h.i.drewN n, pw_below_drewN h.b n, keep_drewN h.k n, h.ge, h.lt, h.ne, blk_drewN h.box n⟩
theorem Fr.drew {w0 w wc : World} {g : Nat} {s0 : List S28} {s1 s2 s3 : Int} {gb : Nat} {cs : Array Value} {T : TypeId} (h : Fr w0 w wc g s0 s1 s2 s3 gb cs T) : Fr w0 w wc.drew g s0 s1 s2 s3 gb cs T :=
  ⟨h.i.drew, below_drew1 h.b, keep_drew h.k, h.ge, h.lt, h.ne, blk_drew h.box⟩
theorem Fr.alloc {w0 w wc : World} {g : Nat} {s0 : List S28} {s1 s2 s3 : Int} {gb : Nat} {cs : Array Value} {T : TypeId} (h : Fr w0 w wc g s0 s1 s2 s3 gb cs T) (o : Obj) : Fr w0 w (wc.alloc o) g s0 s1 s2 s3 gb cs T :=
  ⟨h.i.alloc o, below_alloc h.b o, keep_alloc h.k o, h.ge, h.lt, h.ne, blk_alloc h.box o⟩
theorem Fr.start {w0 w : World} {g : Nat} {s0 : List S28} {s1 s2 s3 : Int} (hI : IsS74 w0 w g s0 s1 s2 s3) (hB : Below w0.heap.size w0 w) (cs : Array Value) (T : TypeId) :
    Fr w0 w (w.alloc (.cells cs T)) g s0 s1 s2 s3 w.heap.size cs T :=
  ⟨hI.alloc _, below_alloc hB _, keep_alloc (KeepBut.refl _ _ _) _, Nat.le_refl _, hB.size, fun e => by have := hI.lt; omega, blk_new w _⟩
theorem Fr.put {w0 w wc : World} {g : Nat} {s0 : List S28} {s1 s2 s3 : Int} {gb : Nat} {cs : Array Value} {T : TypeId} (h : Fr w0 w wc g s0 s1 s2 s3 gb cs T) (j : Nat) (u : Value) {cs2 : Array Value} (hj : cs.setIfInBounds j u = cs2) :
    Fr w0 w (wc.setCell ⟨gb, j, none⟩ u) g s0 s1 s2 s3 gb cs2 T :=
  ⟨h.i.far (fun e => h.ne e.symm) u, below_set h.b (Nat.le_trans h.lt h.ge), keep_far h.k h.ge u, h.ge, h.lt, h.ne, blk_put h.box j u hj⟩
theorem Fr.set_1 {w0 w wc : World} {g : Nat} {s0 : List S28} {s1 s2 s3 : Int} {gb : Nat} {cs : Array Value} {T : TypeId} (h : Fr w0 w wc g s0 s1 s2 s3 gb cs T) (x : Int) : Fr w0 w (wc.setCell ⟨g, 1, none⟩ (.int .i64 x)) g s0 x s2 s3 gb cs T :=
  ⟨h.i.set_1 x, below_set h.b h.i.ge, h.k.set_ 1 _, h.ge, h.lt, h.ne, blk_far h.box h.ne _⟩
theorem Fr.call {w0 w wc w2 : World} {g : Nat} {s0 : List S28} {s1 s2 s3 r1 r2 r3 : Int} {gb : Nat} {cs : Array Value} {T : TypeId} (h : Fr w0 w wc g s0 s1 s2 s3 gb cs T)
    (hi : IsS74 w0 w2 g s0 r1 r2 r3) (hb : Below w0.heap.size w0 w2) (hk : KeepBut wc w2 g none) : Fr w0 w w2 g s0 r1 r2 r3 gb cs T :=
  ⟨hi, hb, h.k.trans hk (.inl rfl), h.ge, h.lt, h.ne, KeepBut.blk hk h.box h.ne (by simp)⟩
theorem Fr.quiet {w0 w wc w2 : World} {g : Nat} {s0 : List S28} {s1 s2 s3 : Int} {gb : Nat} {cs : Array Value} {T : TypeId} (h : Fr w0 w wc g s0 s1 s2 s3 gb cs T)
    (hb : Below wc.heap.size wc w2) : Fr w0 w w2 g s0 s1 s2 s3 gb cs T :=
  h.call (h.i.below hb) (below_weaken h.b h.b.size hb) (KeepBut.of_below hb g none)
theorem Fr.facts {w0 w wc : World} {g : Nat} {s0 : List S28} {s1 s2 s3 : Int} {gb : Nat} {cs : Array Value} {T : TypeId} (h : Fr w0 w wc g s0 s1 s2 s3 gb cs T) :
    ∃ A c, wc.cell? ⟨g, 0, none⟩ = some (.slice A s0.length c) ∧ wc.cell? ⟨g, 1, none⟩ = some (.int .i64 s1) ∧ wc.cell? ⟨g, 2, none⟩ = some (.int .i64 s2) ∧ wc.cell? ⟨g, 3, none⟩ = some (.int .i64 s3) ∧
      wc.frozen? ⟨g, 1, none⟩ = false ∧ wc.frozen? ⟨g, 3, none⟩ = false ∧ Kd.C k28 wc A s0.length s0 := by
  obtain ⟨A, c, hb, hg, hC⟩ := h.i
  exact ⟨A, c, cellS74_0 hb, cellS74_1 hb, cellS74_2 hb, cellS74_3 hb, blk_frozen hb 1, blk_frozen hb 3, Kd.C_below hC h.b⟩
theorem Fr.five {w0 w wc : World} {g : Nat} {s0 : List S28} {s1 s2 s3 : Int} {gb : Nat} {a0 a1 a2 a3 a4 : Value} {T : TypeId} (h : Fr w0 w wc g s0 s1 s2 s3 gb #[a0, a1, a2, a3, a4] T) (b0 b1 b2 b3 b4 : Value) :
    Fr w0 w (((((wc.setCell ⟨gb, 0, none⟩ b0).setCell ⟨gb, 1, none⟩ b1).setCell ⟨gb, 2, none⟩ b2).setCell ⟨gb, 3, none⟩ b3).setCell ⟨gb, 4, none⟩ b4) g s0 s1 s2 s3 gb #[b0, b1, b2, b3, b4] T :=
  ((((h.put 0 b0 rfl).put 1 b1 rfl).put 2 b2 rfl).put 3 b3 rfl).put 4 b4 rfl
theorem Fr.three {w0 w wc : World} {g : Nat} {s0 : List S28} {s1 s2 s3 : Int} {gb : Nat} {a0 a1 a2 : Value} {T : TypeId} (h : Fr w0 w wc g s0 s1 s2 s3 gb #[a0, a1, a2] T) (b0 b1 b2 : Value) :
    Fr w0 w (((wc.setCell ⟨gb, 0, none⟩ b0).setCell ⟨gb, 1, none⟩ b1).setCell ⟨gb, 2, none⟩ b2) g s0 s1 s2 s3 gb #[b0, b1, b2] T :=
  ((h.put 0 b0 rfl).put 1 b1 rfl).put 2 b2 rfl

end Go.Proofs.Ytokkjnfdfbpphaa.A
namespace Go.Proofs.Ytokkjnfdfbpphaa.A
open Go.RowKit Go.Proofs.YtokkjnfdfbpphaaW.PrintWords Go.Proofs.YtokkjnfdfbpphaaW.PrintLast Go.Proofs.YtokkjnfdfbpphaaW.PrintMore
attribute [local go_sem] max2_int min2_int max_two min_two max_three min_three max_four min_four   -- for this text's walks alone
set_option linter.unusedVariables false
set_option linter.unusedSimpArgs false

/-- The steps' words, by their kinds. -/
def wordL : List (List UInt8) := [[], [97, 112, 112, 101, 110, 100], [103, 101, 116], [101, 114, 97, 115, 101], [100, 114, 111, 112], [104, 111, 108, 100], [114, 101, 108, 101, 97, 115, 101], [112, 111, 105, 110, 116], [116, 105, 99, 107], [115, 116, 101, 112], [115, 119, 101, 101, 112], [99, 114, 97, 115, 104], [97, 114, 109], [111, 112, 101, 110], [115, 104, 111, 119], [112, 114, 111, 118, 101]]
def wordV : Array Value := (wordL.map fun l => Value.string ⟨l.toArray⟩).toArray
set_option maxRecDepth 100000 in
set_option maxHeartbeats 4000000 in
theorem forms_calls (w : World) : Calls Try.prog 37 #[] w fun e w' => e = .returned (.agg wordV) ∧ Below w.heap.size w w' := by
  go_enter Try.func37, Try.ntmps37
  go_wp2_with fail
  refine bodyPost_ret (results_cell_row rfl _ _ w.heap.size 79 wordV (0, 0) _ rfl ?_ Try.underlying79 rfl (by kernel_rfl)) rfl ⟨rfl, ?_⟩
  · exact blk_new w (.cells wordV 79)
  · exact below_alloc (Below.refl _ _) _
theorem word_at (i : Nat) (f : List UInt8) (hf : wordL[i]? = some f) (w : World) : Sem.run Try.prog (Instr.index 79 (.agg wordV) (.int .i64 (i : Int))) w = .ok (.string ⟨f.toArray⟩) w := by
  have hl : i < 16 := by
    have := (List.getElem?_eq_some_iff.mp hf).1
    exact this
  have hv : wordV[i]? = some (.string ⟨f.toArray⟩) := by simp [wordV, hf]
  simp [Instr.index, run_underlying Try.underlying79, asIntOf, hl, go_sem]
  rw [hv]
  simp [go_sem]

end Go.Proofs.Ytokkjnfdfbpphaa.A
namespace Go.Proofs.Ytokkjnfdfbpphaa.A
open Go.RowKit Go.Proofs.YtokkjnfdfbpphaaW.PrintWords Go.Proofs.YtokkjnfdfbpphaaW.PrintLast Go.Proofs.YtokkjnfdfbpphaaW.PrintMore
attribute [local go_sem] max2_int min2_int max_two min_two max_three min_three max_four min_four   -- for this text's walks alone
set_option linter.unusedVariables false
set_option linter.unusedSimpArgs false

/-- A step under way, in a block of its own. -/
structure Ob (w : World) (B g ga : Nat) (x : S45) (v3 v6 : Value) : Prop where
  box : w.heap[ga]? = some (.cells #[.int .i64 x.f0, .string x.f1.f0, .int .i64 x.f1.f1, v3, .string x.f2, .string x.f3, v6, .string x.f5, .int .i64 x.f6, .int .i64 x.f7, .int .u64 x.f8, .int .i64 x.f9] 45 (0, 0))
  r3 : Kd.R k87 87 w B (fun k => k ≠ ga ∧ k ≠ g) v3 x.f1.f2
  r6 : Kd.R Kd.string 9 w B (fun k => k ≠ ga ∧ k ≠ g) v6 x.f4
theorem Ob.keep {w w2 : World} {B g ga : Nat} {x : S45} {v3 v6 : Value} (h : Ob w B g ga x v3 v6) (hk : KeepBut w w2 g none) (hne : ga ≠ g) : Ob w2 B g ga x v3 v6 :=
  ⟨KeepBut.blk hk h.box hne (by simp), Kd.R_keep h.r3 hk (fun _ h => h.2), Kd.R_keep h.r6 hk (fun _ h => h.2)⟩
theorem Ob.below {w w2 : World} {B g ga : Nat} {x : S45} {v3 v6 : Value} (h : Ob w B g ga x v3 v6) (hb : Below w.heap.size w w2) : Ob w2 B g ga x v3 v6 :=
  ⟨(hb.block _ (blk_lt h.box)).trans h.box, Kd.R_below h.r3 hb, Kd.R_below h.r6 hb⟩
theorem Ob.put {w : World} {B g ga : Nat} {x y : S45} {v3 v6 : Value} (h : Ob w B g ga x v3 v6) (j : Nat) (u : Value)
    (hb : (#[.int .i64 x.f0, .string x.f1.f0, .int .i64 x.f1.f1, v3, .string x.f2, .string x.f3, v6, .string x.f5, .int .i64 x.f6, .int .i64 x.f7, .int .u64 x.f8, .int .i64 x.f9] : Array Value).setIfInBounds j u =
      #[.int .i64 y.f0, .string y.f1.f0, .int .i64 y.f1.f1, v3, .string y.f2, .string y.f3, v6, .string y.f5, .int .i64 y.f6, .int .i64 y.f7, .int .u64 y.f8, .int .i64 y.f9])
    (h1 : y.f1.f2 = x.f1.f2) (h2 : y.f4 = x.f4) : Ob (w.setCell ⟨ga, j, none⟩ u) B g ga y v3 v6 :=
  ⟨blk_put h.box j u hb, by rw [h1]; exact Kd.R_far h.r3 (fun _ h => h.1) u, by rw [h2]; exact Kd.R_far h.r6 (fun _ h => h.1) u⟩
theorem Ob.putN {w : World} {B g ga : Nat} {x : S45} {v3 v6 u : Value} {l : List ByteArray} (h : Ob w B g ga x v3 v6) (hu : Kd.R Kd.string 9 w B (fun k => k ≠ ga ∧ k ≠ g) u l) :
    Ob (w.setCell ⟨ga, 6, none⟩ u) B g ga { x with f4 := l } v3 u :=
  ⟨blk_put h.box 6 u rfl, Kd.R_far h.r3 (fun _ h => h.1) u, Kd.R_far hu (fun _ h => h.1) u⟩
theorem Ob.putP {w : World} {B g ga : Nat} {x : S45} {v3 v6 u : Value} {p : S42} (h : Ob w B g ga x v3 v6) (hu : Kd.R k87 87 w B (fun k => k ≠ ga ∧ k ≠ g) u p.f2) :
    Ob (((w.setCell ⟨ga, 1, none⟩ (.string p.f0)).setCell ⟨ga, 2, none⟩ (.int .i64 p.f1)).setCell ⟨ga, 3, none⟩ u) B g ga { x with f1 := p } u v6 :=
  ⟨blk_put (blk_put (blk_put h.box 1 _ rfl) 2 _ rfl) 3 u rfl, Kd.R_far (Kd.R_far (Kd.R_far hu (fun _ h => h.1) _) (fun _ h => h.1) _) (fun _ h => h.1) u,
    Kd.R_far (Kd.R_far (Kd.R_far h.r6 (fun _ h => h.1) _) (fun _ h => h.1) _) (fun _ h => h.1) u⟩
theorem Ob.cells {w : World} {B g ga : Nat} {x : S45} {v3 v6 : Value} (h : Ob w B g ga x v3 v6) :
    w.cell? ⟨ga, 1, none⟩ = some (.string x.f1.f0) ∧ w.cell? ⟨ga, 2, none⟩ = some (.int .i64 x.f1.f1) ∧ w.cell? ⟨ga, 3, none⟩ = some v3 ∧ w.cell? ⟨ga, 4, none⟩ = some (.string x.f2) ∧ w.cell? ⟨ga, 5, none⟩ = some (.string x.f3) ∧ w.cell? ⟨ga, 6, none⟩ = some v6 ∧
    w.cell? ⟨ga, 7, none⟩ = some (.string x.f5) ∧ w.cell? ⟨ga, 8, none⟩ = some (.int .i64 x.f6) ∧ w.cell? ⟨ga, 9, none⟩ = some (.int .i64 x.f7) ∧ w.cell? ⟨ga, 10, none⟩ = some (.int .u64 x.f8) ∧ w.cell? ⟨ga, 11, none⟩ = some (.int .i64 x.f9) ∧
    w.frozen? ⟨ga, 1, none⟩ = false ∧ w.frozen? ⟨ga, 2, none⟩ = false ∧ w.frozen? ⟨ga, 3, none⟩ = false ∧ w.frozen? ⟨ga, 4, none⟩ = false ∧ w.frozen? ⟨ga, 5, none⟩ = false ∧ w.frozen? ⟨ga, 6, none⟩ = false ∧ w.frozen? ⟨ga, 7, none⟩ = false ∧
    w.frozen? ⟨ga, 8, none⟩ = false ∧ w.frozen? ⟨ga, 9, none⟩ = false ∧ w.frozen? ⟨ga, 10, none⟩ = false ∧ w.frozen? ⟨ga, 11, none⟩ = false :=
  ⟨(blk_cell h.box 1).trans rfl, (blk_cell h.box 2).trans rfl, (blk_cell h.box 3).trans rfl, (blk_cell h.box 4).trans rfl, (blk_cell h.box 5).trans rfl, (blk_cell h.box 6).trans rfl, (blk_cell h.box 7).trans rfl, (blk_cell h.box 8).trans rfl,
    (blk_cell h.box 9).trans rfl, (blk_cell h.box 10).trans rfl, (blk_cell h.box 11).trans rfl, blk_frozen h.box 1, blk_frozen h.box 2, blk_frozen h.box 3, blk_frozen h.box 4, blk_frozen h.box 5, blk_frozen h.box 6, blk_frozen h.box 7, blk_frozen h.box 8, blk_frozen h.box 9, blk_frozen h.box 10, blk_frozen h.box 11⟩
theorem keep_row {w w1 : World} {g : Nat} (h : KeepBut w w1 g none) (ga : Nat) : KeepBut w w1 g (some ga) := ⟨h.1, fun i hi h1 _ => h.2 i hi h1 (by simp)⟩
theorem keep_rowSet {w w1 : World} {g ga : Nat} (h : KeepBut w w1 g (some ga)) (j : Nat) (u : Value) : KeepBut w (w1.setCell ⟨ga, j, none⟩ u) g (some ga) :=
  ⟨by simpa [World.setCell] using h.1, fun i hi h1 h2 => (Below.heap_setCell w1 ⟨ga, j, none⟩ u i (fun e => h2 (by rw [e]))).trans (h.2 i hi h1 h2)⟩

end Go.Proofs.Ytokkjnfdfbpphaa.A
namespace Go.Proofs.Ytokkjnfdfbpphaa.A
open Go.RowKit Go.Proofs.YtokkjnfdfbpphaaW.PrintWords Go.Proofs.YtokkjnfdfbpphaaW.PrintLast Go.Proofs.YtokkjnfdfbpphaaW.PrintMore
attribute [local go_sem] max2_int min2_int max_two min_two max_three min_three max_four min_four   -- for this text's walks alone
set_option linter.unusedVariables false
set_option linter.unusedSimpArgs false

/-! ### say_parser_fail: function 55 -/
def say_parser_fail.f (s0_0 : List (S28)) (s0_1 : Int) (s0_2 : Int) (s0_3 : Int) : Option (Int × Int × Int) := if s0_3 < 0 then ((say_parser_here.f s0_0 s0_1 s0_2 s0_3).bind fun bt126 => (some (bt126.2.1, bt126.2.2.1, bt126.1))) else (some (s0_1, s0_2, s0_3))
set_option maxHeartbeats 8000000 in
set_option maxRecDepth 100000 in
theorem say_parser_fail.calls (g : Nat) (s0_0 : List (S28)) (s0_1 : Int) (s0_2 : Int) (s0_3 : Int) (r1 : Int) (r2 : Int) (r3 : Int) (w0 w : World) (hI : IsS74 w0 w g s0_0 s0_1 s0_2 s0_3) (hB : Below w0.heap.size w0 w) (h : say_parser_fail.f s0_0 s0_1 s0_2 s0_3 = some (r1, r2, r3)) :
    Calls Try.prog 55 #[.pointer (some ⟨g, 0, none⟩)] w fun e w' => e = .returned (.tuple #[]) ∧ IsS74 w0 w' g s0_0 r1 r2 r3 ∧ Below w0.heap.size w0 w' ∧ KeepBut w w' g none := by
  have HI0 := Aside0.mk hI
  have HK := Aside0.mk (KeepBut.refl w g none)
  have HL := Aside0.mk hB.size
  clear hI
  have HW0 := Aside0.mk hB.size
  have HB := Aside0.mk hB
  clear hB
  have H : (if s0_3 < 0 then ((say_parser_here.f s0_0 s0_1 s0_2 s0_3).bind fun bt126 => (some (bt126.2.1, bt126.2.2.1, bt126.1))) else (some (s0_1, s0_2, s0_3))) = some (r1, r2, r3) := h
  clear h
  by_cases c2 : s0_3 < 0
  · rw [if_pos c2] at H
    have c2b0 : decide (s0_3 < 0) = true := decide_eq_true c2
    clear c2
    replace H := Option.bind_eq_some_iff.mp H
    obtain ⟨⟨t126, t127, t128, t129⟩, A30, H⟩ := H
    replace H : (some (t127, t128, t126)) = some (r1, r2, r3) := H
    have A3 := Aside0.mk A30
    clear A30
    simp only [Option.some.injEq, Prod.mk.injEq] at H
    obtain ⟨rfl, rfl, rfl⟩ := H
    obtain ⟨ASz4_0, cSz4_0, HGz4, hgz4, HSz4_0⟩ := HI0.out
    have hcz4_0 := cellS74_0 HGz4
    have hcz4_1 := cellS74_1 HGz4
    have hcz4_2 := cellS74_2 HGz4
    have hcz4_3 := cellS74_3 HGz4
    have hfz4_1 := blk_frozen HGz4 1
    have hfz4_2 := blk_frozen HGz4 2
    have hfz4_3 := blk_frozen HGz4 3
    clear HGz4 hgz4
    go_enter Try.func55, Try.ntmps55
    go_wp2_with (first | ((with_reducible refine gate_callee (f := 68) rfl ?_); refine goesL_ (some 9) rfl rfl Try.func68 (by kernel_rfl) rfl #[.pointer (some ⟨g, 0, none⟩)] rfl (by (try simp only [List.map_toArray, List.map_cons, List.map_nil]); first | done | rfl | (simp only [List.length_drop, List.length_take]; rfl)) ?_; (with_reducible refine (say_parser_here.calls g s0_0 s0_1 s0_2 s0_3 t126 t127 t128 t129 w0 _ ?side1 ?side2 A3.out).mono ?_); (case side1 => repeat (first | (with_reducible first | exact HI0.out | apply IsS74.alloc | apply IsS74.drewN | apply IsS74.drew | apply IsS74.set_1 | apply IsS74.set_2 | apply IsS74.set_3) | exact HI0.out)); (case side2 => repeat (first | (with_reducible first | exact HB.out | apply below_alloc | apply pw_below_drewN | apply below_drew1 | refine below_set ?_ (IsS74.ge HI0.out)) | exact HB.out)); rintro e w5 ⟨rfl, hi, hb, hk⟩; refine ⟨_, rfl, ?_⟩; have n0_ := Aside0.mk (KeepBut.trans (by repeat (first | (with_reducible first | exact HK.out | apply KeepBut.set_ | apply keep_drewN | apply keep_drew | apply keep_alloc) | exact HK.out)) hk (.inl rfl)); have n1_ := Aside0.mk (hb); have n2_ := Aside0.mk (hi); clear HK; clear HB; clear HI0; have HK := n0_; have HB := n1_; have HI0 := n2_; clear n0_ n1_ n2_; (try clear hb); (try clear hb2); (try clear hk); (try clear hi); obtain ⟨ASz6_0, cSz6_0, HGz6, hgz6, HSz6_0⟩ := HI0.out; have hcz6_0 := cellS74_0 HGz6; have hcz6_1 := cellS74_1 HGz6; have hcz6_2 := cellS74_2 HGz6; have hcz6_3 := cellS74_3 HGz6; have hfz6_1 := blk_frozen HGz6 1; have hfz6_2 := blk_frozen HGz6 2; have hfz6_3 := blk_frozen HGz6 3; clear HGz6 hgz6))
    first | go_end0 | ((try simp only [Exit.inBlock, Exit.then]); refine bodyPost_ret (results_none rfl _ _ _) rfl ?_)
    exact ⟨by first | rfl | (simp [errW_none, errW_some] <;> rfl) | (simp [*, errW_none, errW_some] <;> rfl), by repeat (first | (with_reducible first | exact HI0.out | apply IsS74.alloc | apply IsS74.drewN | apply IsS74.drew | apply IsS74.set_1 | apply IsS74.set_2 | apply IsS74.set_3) | exact HI0.out), by repeat (first | (with_reducible first | exact HB.out | apply below_alloc | apply pw_below_drewN | apply below_drew1 | refine below_set ?_ (IsS74.ge HI0.out)) | exact HB.out), by repeat (first | (with_reducible first | exact HK.out | apply KeepBut.set_ | apply keep_drewN | apply keep_drew | apply keep_alloc) | exact HK.out)⟩
  · rw [if_neg c2] at H
    have c2b0 : decide (s0_3 < 0) = false := decide_eq_false c2
    clear c2
    simp only [Option.some.injEq, Prod.mk.injEq] at H
    obtain ⟨rfl, rfl, rfl⟩ := H
    obtain ⟨ASz7_0, cSz7_0, HGz7, hgz7, HSz7_0⟩ := HI0.out
    have hcz7_0 := cellS74_0 HGz7
    have hcz7_1 := cellS74_1 HGz7
    have hcz7_2 := cellS74_2 HGz7
    have hcz7_3 := cellS74_3 HGz7
    have hfz7_1 := blk_frozen HGz7 1
    have hfz7_2 := blk_frozen HGz7 2
    have hfz7_3 := blk_frozen HGz7 3
    clear HGz7 hgz7
    go_enter Try.func55, Try.ntmps55
    go_wp2
    first | go_end0 | ((try simp only [Exit.inBlock, Exit.then]); refine bodyPost_ret (results_none rfl _ _ _) rfl ?_)
    exact ⟨by first | rfl | (simp [errW_none, errW_some] <;> rfl) | (simp [*, errW_none, errW_some] <;> rfl), by repeat (first | (with_reducible first | exact HI0.out | apply IsS74.alloc | apply IsS74.drewN | apply IsS74.drew | apply IsS74.set_1 | apply IsS74.set_2 | apply IsS74.set_3) | exact HI0.out), by repeat (first | (with_reducible first | exact HB.out | apply below_alloc | apply pw_below_drewN | apply below_drew1 | refine below_set ?_ (IsS74.ge HI0.out)) | exact HB.out), by repeat (first | (with_reducible first | exact HK.out | apply KeepBut.set_ | apply keep_drewN | apply keep_drew | apply keep_alloc) | exact HK.out)⟩

end Go.Proofs.Ytokkjnfdfbpphaa.A
namespace Go.Proofs.Ytokkjnfdfbpphaa.A
open Go.RowKit Go.Proofs.YtokkjnfdfbpphaaW.PrintWords Go.Proofs.YtokkjnfdfbpphaaW.PrintLast Go.Proofs.YtokkjnfdfbpphaaW.PrintMore
attribute [local go_sem] max2_int min2_int max_two min_two max_three min_three max_four min_four   -- for this text's walks alone
set_option linter.unusedVariables false
set_option linter.unusedSimpArgs false

/-! ### say_parser_take: function 61 -/
def say_parser_take.f (s0_0 : List (S28)) (s0_1 : Int) (s0_2 : Int) (s0_3 : Int) (a1 : Int) : Option (ByteArray × Int × Int × Int) := if s0_3 ≥ 0 then (some ((⟨#[]⟩ : ByteArray), s0_1, s0_2, s0_3)) else (if s0_1 ≥ (s0_0.length : Int) then ((say_parser_fail.f s0_0 s0_1 s0_2 s0_3).bind fun bt130 => (some ((⟨#[]⟩ : ByteArray), bt130.1, bt130.2.1, bt130.2.2))) else (if 0 ≤ s0_1 then (if s0_1 < (s0_0.length : Int) then (if ((rd_T28 s0_0 s0_1).f0) = a1 then (if 0 ≤ (wrap64 ((wrap64 (s0_1 + 1)) - 1)) then (if (wrap64 ((wrap64 (s0_1 + 1)) - 1)) < (s0_0.length : Int) then (some ((rd_T28 s0_0 (wrap64 ((wrap64 (s0_1 + 1)) - 1))).f1, wrap64 (s0_1 + 1), s0_2, s0_3)) else (none)) else (none)) else ((say_parser_fail.f s0_0 s0_1 s0_2 s0_3).bind fun bt135 => (some ((⟨#[]⟩ : ByteArray), bt135.1, bt135.2.1, bt135.2.2)))) else (none)) else (none)))
set_option maxHeartbeats 8000000 in
set_option maxRecDepth 100000 in
theorem say_parser_take.calls (g : Nat) (s0_0 : List (S28)) (s0_1 : Int) (s0_2 : Int) (s0_3 : Int) (a1 : Int) (r1 : ByteArray) (r2 : Int) (r3 : Int) (r4 : Int) (w0 w : World) (hI : IsS74 w0 w g s0_0 s0_1 s0_2 s0_3) (hB : Below w0.heap.size w0 w) (h : say_parser_take.f s0_0 s0_1 s0_2 s0_3 a1 = some (r1, r2, r3, r4)) :
    Calls Try.prog 61 #[.pointer (some ⟨g, 0, none⟩), .int .i64 a1] w fun e w' => e = .returned (.string r1) ∧ IsS74 w0 w' g s0_0 r2 r3 r4 ∧ Below w0.heap.size w0 w' ∧ KeepBut w w' g none := by
  have HI0 := Aside0.mk hI
  have HK := Aside0.mk (KeepBut.refl w g none)
  have HL := Aside0.mk hB.size
  clear hI
  have HW0 := Aside0.mk hB.size
  have HB := Aside0.mk hB
  clear hB
  have H : (if s0_3 ≥ 0 then (some ((⟨#[]⟩ : ByteArray), s0_1, s0_2, s0_3)) else (if s0_1 ≥ (s0_0.length : Int) then ((say_parser_fail.f s0_0 s0_1 s0_2 s0_3).bind fun bt130 => (some ((⟨#[]⟩ : ByteArray), bt130.1, bt130.2.1, bt130.2.2))) else (if 0 ≤ s0_1 then (if s0_1 < (s0_0.length : Int) then (if ((rd_T28 s0_0 s0_1).f0) = a1 then (if 0 ≤ (wrap64 ((wrap64 (s0_1 + 1)) - 1)) then (if (wrap64 ((wrap64 (s0_1 + 1)) - 1)) < (s0_0.length : Int) then (some ((rd_T28 s0_0 (wrap64 ((wrap64 (s0_1 + 1)) - 1))).f1, wrap64 (s0_1 + 1), s0_2, s0_3)) else (none)) else (none)) else ((say_parser_fail.f s0_0 s0_1 s0_2 s0_3).bind fun bt135 => (some ((⟨#[]⟩ : ByteArray), bt135.1, bt135.2.1, bt135.2.2)))) else (none)) else (none)))) = some (r1, r2, r3, r4) := h
  clear h
  by_cases c3 : s0_3 ≥ 0
  · rw [if_pos c3] at H
    have c3b0 : decide (0 ≤ s0_3) = true := decide_eq_true c3
    clear c3
    simp only [Option.some.injEq, Prod.mk.injEq] at H
    obtain ⟨rfl, rfl, rfl, rfl⟩ := H
    obtain ⟨ASz4_0, cSz4_0, HGz4, hgz4, HSz4_0⟩ := HI0.out
    have hcz4_0 := cellS74_0 HGz4
    have hcz4_1 := cellS74_1 HGz4
    have hcz4_2 := cellS74_2 HGz4
    have hcz4_3 := cellS74_3 HGz4
    have hfz4_1 := blk_frozen HGz4 1
    have hfz4_2 := blk_frozen HGz4 2
    have hfz4_3 := blk_frozen HGz4 3
    clear HGz4 hgz4
    go_enter Try.func61, Try.ntmps61
    go_wp2
    repeat (go_quiet (fail); try go_wp2)
    go_ret
    exact ⟨by first | rfl | (simp [errW_none, errW_some] <;> rfl) | (simp [*, errW_none, errW_some] <;> rfl), by repeat (first | (with_reducible first | exact HI0.out | apply IsS74.alloc | apply IsS74.drewN | apply IsS74.drew | apply IsS74.set_1 | apply IsS74.set_2 | apply IsS74.set_3) | exact HI0.out), by repeat (first | (with_reducible first | exact HB.out | apply below_alloc | apply pw_below_drewN | apply below_drew1 | refine below_set ?_ (IsS74.ge HI0.out)) | exact HB.out), by repeat (first | (with_reducible first | exact HK.out | apply KeepBut.set_ | apply keep_drewN | apply keep_drew | apply keep_alloc) | exact HK.out)⟩
  · rw [if_neg c3] at H
    have c3b0 : decide (0 ≤ s0_3) = false := decide_eq_false c3
    clear c3
    by_cases c5 : s0_1 ≥ (s0_0.length : Int)
    · rw [if_pos c5] at H
      have c5b0 : decide ((s0_0.length : Int) ≤ s0_1) = true := decide_eq_true c5
      clear c5
      replace H := Option.bind_eq_some_iff.mp H
      obtain ⟨⟨t130, t131, t132⟩, A60, H⟩ := H
      replace H : (some ((⟨#[]⟩ : ByteArray), t130, t131, t132)) = some (r1, r2, r3, r4) := H
      have A6 := Aside0.mk A60
      clear A60
      simp only [Option.some.injEq, Prod.mk.injEq] at H
      obtain ⟨rfl, rfl, rfl, rfl⟩ := H
      obtain ⟨ASz7_0, cSz7_0, HGz7, hgz7, HSz7_0⟩ := HI0.out
      have hcz7_0 := cellS74_0 HGz7
      have hcz7_1 := cellS74_1 HGz7
      have hcz7_2 := cellS74_2 HGz7
      have hcz7_3 := cellS74_3 HGz7
      have hfz7_1 := blk_frozen HGz7 1
      have hfz7_2 := blk_frozen HGz7 2
      have hfz7_3 := blk_frozen HGz7 3
      clear HGz7 hgz7
      go_enter Try.func61, Try.ntmps61
      go_wp2_with (first | (go_at_call 55; (with_reducible refine (say_parser_fail.calls g s0_0 s0_1 s0_2 s0_3 t130 t131 t132 w0 _ ?side1 ?side2 A6.out).mono ?_); (case side1 => repeat (first | (with_reducible first | exact HI0.out | apply IsS74.alloc | apply IsS74.drewN | apply IsS74.drew | apply IsS74.set_1 | apply IsS74.set_2 | apply IsS74.set_3) | exact HI0.out)); (case side2 => repeat (first | (with_reducible first | exact HB.out | apply below_alloc | apply pw_below_drewN | apply below_drew1 | refine below_set ?_ (IsS74.ge HI0.out)) | exact HB.out)); rintro e w8 ⟨rfl, hi, hb, hk⟩; have n0_ := Aside0.mk (KeepBut.trans (by repeat (first | (with_reducible first | exact HK.out | apply KeepBut.set_ | apply keep_drewN | apply keep_drew | apply keep_alloc) | exact HK.out)) hk (.inl rfl)); have n1_ := Aside0.mk (hb); have n2_ := Aside0.mk (hi); clear HK; clear HB; clear HI0; have HK := n0_; have HB := n1_; have HI0 := n2_; clear n0_ n1_ n2_; (try clear hb); (try clear hb2); (try clear hk); (try clear hi)))
      repeat (go_quiet (first | (go_at_call 55; (with_reducible refine (say_parser_fail.calls g s0_0 s0_1 s0_2 s0_3 t130 t131 t132 w0 _ ?side1 ?side2 A6.out).mono ?_); (case side1 => repeat (first | (with_reducible first | exact HI0.out | apply IsS74.alloc | apply IsS74.drewN | apply IsS74.drew | apply IsS74.set_1 | apply IsS74.set_2 | apply IsS74.set_3) | exact HI0.out)); (case side2 => repeat (first | (with_reducible first | exact HB.out | apply below_alloc | apply pw_below_drewN | apply below_drew1 | refine below_set ?_ (IsS74.ge HI0.out)) | exact HB.out)); rintro e w8 ⟨rfl, hi, hb, hk⟩; have n0_ := Aside0.mk (KeepBut.trans (by repeat (first | (with_reducible first | exact HK.out | apply KeepBut.set_ | apply keep_drewN | apply keep_drew | apply keep_alloc) | exact HK.out)) hk (.inl rfl)); have n1_ := Aside0.mk (hb); have n2_ := Aside0.mk (hi); clear HK; clear HB; clear HI0; have HK := n0_; have HB := n1_; have HI0 := n2_; clear n0_ n1_ n2_; (try clear hb); (try clear hb2); (try clear hk); (try clear hi))); try go_wp2_with (first | (go_at_call 55; (with_reducible refine (say_parser_fail.calls g s0_0 s0_1 s0_2 s0_3 t130 t131 t132 w0 _ ?side1 ?side2 A6.out).mono ?_); (case side1 => repeat (first | (with_reducible first | exact HI0.out | apply IsS74.alloc | apply IsS74.drewN | apply IsS74.drew | apply IsS74.set_1 | apply IsS74.set_2 | apply IsS74.set_3) | exact HI0.out)); (case side2 => repeat (first | (with_reducible first | exact HB.out | apply below_alloc | apply pw_below_drewN | apply below_drew1 | refine below_set ?_ (IsS74.ge HI0.out)) | exact HB.out)); rintro e w8 ⟨rfl, hi, hb, hk⟩; have n0_ := Aside0.mk (KeepBut.trans (by repeat (first | (with_reducible first | exact HK.out | apply KeepBut.set_ | apply keep_drewN | apply keep_drew | apply keep_alloc) | exact HK.out)) hk (.inl rfl)); have n1_ := Aside0.mk (hb); have n2_ := Aside0.mk (hi); clear HK; clear HB; clear HI0; have HK := n0_; have HB := n1_; have HI0 := n2_; clear n0_ n1_ n2_; (try clear hb); (try clear hb2); (try clear hk); (try clear hi))))
      go_ret
      exact ⟨by first | rfl | (simp [errW_none, errW_some] <;> rfl) | (simp [*, errW_none, errW_some] <;> rfl), by repeat (first | (with_reducible first | exact HI0.out | apply IsS74.alloc | apply IsS74.drewN | apply IsS74.drew | apply IsS74.set_1 | apply IsS74.set_2 | apply IsS74.set_3) | exact HI0.out), by repeat (first | (with_reducible first | exact HB.out | apply below_alloc | apply pw_below_drewN | apply below_drew1 | refine below_set ?_ (IsS74.ge HI0.out)) | exact HB.out), by repeat (first | (with_reducible first | exact HK.out | apply KeepBut.set_ | apply keep_drewN | apply keep_drew | apply keep_alloc) | exact HK.out)⟩
    · rw [if_neg c5] at H
      have c5b0 : decide ((s0_0.length : Int) ≤ s0_1) = false := decide_eq_false c5
      clear c5
      by_cases c9 : 0 ≤ s0_1
      · rw [if_pos c9] at H
        have c9b0 : decide (0 ≤ s0_1) = true := decide_eq_true c9
        clear c9
        by_cases c10 : s0_1 < (s0_0.length : Int)
        · rw [if_pos c10] at H
          have c10b0 : decide (s0_1 < (s0_0.length : Int)) = true := decide_eq_true c10
          clear c10
          by_cases c11 : ((rd_T28 s0_0 s0_1).f0) = a1
          · rw [if_pos c11] at H
            have c11b0 : (((rd_T28 s0_0 s0_1).f0) == a1) = true := beq_iff_eq.mpr c11
            have c11b1 : (((rd_T28 s0_0 s0_1).f0) != a1) = false := bne_eq_false_iff_eq.mpr c11
            clear c11
            obtain ⟨ji12, hji12⟩ : ∃ j_ : Int, (wrap64 ((wrap64 (s0_1 + 1)) - 1)) = j_ := ⟨_, rfl⟩
            replace H : (if 0 ≤ (ji12) then (if (ji12) < (s0_0.length : Int) then (some ((rd_T28 s0_0 (ji12)).f1, wrap64 (s0_1 + 1), s0_2, s0_3)) else (none)) else (none)) = some (r1, r2, r3, r4) := by first | (rw [hji12] at H; exact H) | (simp only [hji12] at H ⊢; exact H)
            have hji12w : (IntKind.i64.wrap ((wrap64 (s0_1 + 1)) - 1)) = ji12 := (i64_w _).trans hji12
            by_cases c13 : 0 ≤ (ji12)
            · rw [if_pos c13] at H
              have c13b0 : decide (0 ≤ (ji12)) = true := decide_eq_true c13
              clear c13
              by_cases c14 : (ji12) < (s0_0.length : Int)
              · rw [if_pos c14] at H
                have c14b0 : decide ((ji12) < (s0_0.length : Int)) = true := decide_eq_true c14
                clear c14
                simp only [Option.some.injEq, Prod.mk.injEq] at H
                obtain ⟨rfl, rfl, rfl, rfl⟩ := H
                obtain ⟨ASz15_0, cSz15_0, HGz15, hgz15, HSz15_0⟩ := HI0.out
                have hcz15_0 := cellS74_0 HGz15
                have hcz15_1 := cellS74_1 HGz15
                have hcz15_2 := cellS74_2 HGz15
                have hcz15_3 := cellS74_3 HGz15
                have hfz15_1 := blk_frozen HGz15 1
                have hfz15_2 := blk_frozen HGz15 2
                have hfz15_3 := blk_frozen HGz15 3
                clear HGz15 hgz15
                have p133 : 0 ≤ (s0_1 : Int) := of_decide_eq_true (by first | (with_reducible assumption) | assumption)
                have q133 : s0_1 < (s0_0.length : Int) := of_decide_eq_true (by first | (with_reducible assumption) | assumption)
                obtain ⟨ad133, e133, hx133_0, hx133_1, hx133_2⟩ := at_T28 HSz15_0 s0_1 p133 q133
                cases e133
                replace hx133_0 := pw_cell_below HB.out hx133_0
                replace hx133_1 := pw_cell_below HB.out hx133_1
                replace hx133_2 := pw_cell_below HB.out hx133_2
                replace p133 := eq_true p133
                replace q133 := eq_true q133
                have p134 : 0 ≤ ((ji12) : Int) := of_decide_eq_true (by first | (with_reducible assumption) | assumption)
                have q134 : (ji12) < (s0_0.length : Int) := of_decide_eq_true (by first | (with_reducible assumption) | assumption)
                obtain ⟨ad134, e134, hx134_0, hx134_1, hx134_2⟩ := at_T28 HSz15_0 (ji12) p134 q134
                obtain rfl : ad133 = ad134 := (by injection e134)
                have hn134_0 : ad133.block ≠ g := Nat.ne_of_lt (Nat.lt_of_lt_of_le (by have := World.block_lt_of_cell? _ _ hx134_0; first | rwa [add_block] at this | exact this) (IsS74.ge HI0.out))
                replace hx134_0 := pw_cell_below HB.out hx134_0
                replace hx134_1 := pw_cell_below HB.out hx134_1
                replace hx134_2 := pw_cell_below HB.out hx134_2
                replace hx134_0 := (cell_far (p := ⟨g, 1, none⟩) (by first | (rw [add_block]; exact hn134_0) | (show (Addr.add _ _).block ≠ _; rw [add_block]; exact hn134_0) | exact hn134_0) (.int .i64 (wrap64 (s0_1 + 1)))).trans hx134_0
                replace hx134_1 := (cell_far (p := ⟨g, 1, none⟩) (by first | (rw [add_block]; exact hn134_0) | (show (Addr.add _ _).block ≠ _; rw [add_block]; exact hn134_0) | exact hn134_0) (.int .i64 (wrap64 (s0_1 + 1)))).trans hx134_1
                replace hx134_2 := (cell_far (p := ⟨g, 1, none⟩) (by first | (rw [add_block]; exact hn134_0) | (show (Addr.add _ _).block ≠ _; rw [add_block]; exact hn134_0) | exact hn134_0) (.int .i64 (wrap64 (s0_1 + 1)))).trans hx134_2
                (try have hy134_0 := fun (n_ : Nat) => (show (((w.drewN n_).setCell ⟨g, 1, none⟩ (.int .i64 (wrap64 (s0_1 + 1))))).cell? _ = some _ from hx134_0))
                (try have hy134_1 := fun (n_ : Nat) => (show (((w.drewN n_).setCell ⟨g, 1, none⟩ (.int .i64 (wrap64 (s0_1 + 1))))).cell? _ = some _ from hx134_1))
                (try have hy134_2 := fun (n_ : Nat) => (show (((w.drewN n_).setCell ⟨g, 1, none⟩ (.int .i64 (wrap64 (s0_1 + 1))))).cell? _ = some _ from hx134_2))
                clear hn134_0
                replace p134 := eq_true p134
                replace q134 := eq_true q134
                go_enter Try.func61, Try.ntmps61
                go_wp2
                repeat (go_quiet (fail); try go_wp2)
                go_ret
                exact ⟨by first | rfl | (simp [errW_none, errW_some] <;> rfl) | (simp only [← hji12]; first | rfl | (simp [errW_none, errW_some] <;> rfl)) | (simp [*, errW_none, errW_some] <;> rfl), by repeat (first | (with_reducible first | exact HI0.out | apply IsS74.alloc | apply IsS74.drewN | apply IsS74.drew | apply IsS74.set_1 | apply IsS74.set_2 | apply IsS74.set_3) | exact HI0.out), by repeat (first | (with_reducible first | exact HB.out | apply below_alloc | apply pw_below_drewN | apply below_drew1 | refine below_set ?_ (IsS74.ge HI0.out)) | exact HB.out), by repeat (first | (with_reducible first | exact HK.out | apply KeepBut.set_ | apply keep_drewN | apply keep_drew | apply keep_alloc) | exact HK.out)⟩
              · rw [if_neg c14] at H
                exact absurd H (by simp)
            · rw [if_neg c13] at H
              exact absurd H (by simp)
          · rw [if_neg c11] at H
            have c11b0 : (((rd_T28 s0_0 s0_1).f0) == a1) = false := beq_eq_false_iff_ne.mpr c11
            have c11b1 : (((rd_T28 s0_0 s0_1).f0) != a1) = true := bne_iff_ne.mpr c11
            replace H := Option.bind_eq_some_iff.mp H
            obtain ⟨⟨t135, t136, t137⟩, A160, H⟩ := H
            replace H : (some ((⟨#[]⟩ : ByteArray), t135, t136, t137)) = some (r1, r2, r3, r4) := H
            have A16 := Aside0.mk A160
            clear A160
            simp only [Option.some.injEq, Prod.mk.injEq] at H
            obtain ⟨rfl, rfl, rfl, rfl⟩ := H
            obtain ⟨ASz17_0, cSz17_0, HGz17, hgz17, HSz17_0⟩ := HI0.out
            have hcz17_0 := cellS74_0 HGz17
            have hcz17_1 := cellS74_1 HGz17
            have hcz17_2 := cellS74_2 HGz17
            have hcz17_3 := cellS74_3 HGz17
            have hfz17_1 := blk_frozen HGz17 1
            have hfz17_2 := blk_frozen HGz17 2
            have hfz17_3 := blk_frozen HGz17 3
            clear HGz17 hgz17
            have p133 : 0 ≤ (s0_1 : Int) := of_decide_eq_true (by first | (with_reducible assumption) | assumption)
            have q133 : s0_1 < (s0_0.length : Int) := of_decide_eq_true (by first | (with_reducible assumption) | assumption)
            obtain ⟨ad133, e133, hx133_0, hx133_1, hx133_2⟩ := at_T28 HSz17_0 s0_1 p133 q133
            cases e133
            replace hx133_0 := pw_cell_below HB.out hx133_0
            replace hx133_1 := pw_cell_below HB.out hx133_1
            replace hx133_2 := pw_cell_below HB.out hx133_2
            replace p133 := eq_true p133
            replace q133 := eq_true q133
            go_enter Try.func61, Try.ntmps61
            go_wp2_with (first | (go_at_call 55; (with_reducible refine (say_parser_fail.calls g s0_0 s0_1 s0_2 s0_3 t135 t136 t137 w0 _ ?side1 ?side2 A16.out).mono ?_); (case side1 => repeat (first | (with_reducible first | exact HI0.out | apply IsS74.alloc | apply IsS74.drewN | apply IsS74.drew | apply IsS74.set_1 | apply IsS74.set_2 | apply IsS74.set_3) | exact HI0.out)); (case side2 => repeat (first | (with_reducible first | exact HB.out | apply below_alloc | apply pw_below_drewN | apply below_drew1 | refine below_set ?_ (IsS74.ge HI0.out)) | exact HB.out)); rintro e w18 ⟨rfl, hi, hb, hk⟩; have n0_ := Aside0.mk (KeepBut.trans (by repeat (first | (with_reducible first | exact HK.out | apply KeepBut.set_ | apply keep_drewN | apply keep_drew | apply keep_alloc) | exact HK.out)) hk (.inl rfl)); have n1_ := Aside0.mk (hb); have n2_ := Aside0.mk (hi); clear HK; clear HB; clear HI0; have HK := n0_; have HB := n1_; have HI0 := n2_; clear n0_ n1_ n2_; (try clear hb); (try clear hb2); (try clear hk); (try clear hi)))
            repeat (go_quiet (first | (go_at_call 55; (with_reducible refine (say_parser_fail.calls g s0_0 s0_1 s0_2 s0_3 t135 t136 t137 w0 _ ?side1 ?side2 A16.out).mono ?_); (case side1 => repeat (first | (with_reducible first | exact HI0.out | apply IsS74.alloc | apply IsS74.drewN | apply IsS74.drew | apply IsS74.set_1 | apply IsS74.set_2 | apply IsS74.set_3) | exact HI0.out)); (case side2 => repeat (first | (with_reducible first | exact HB.out | apply below_alloc | apply pw_below_drewN | apply below_drew1 | refine below_set ?_ (IsS74.ge HI0.out)) | exact HB.out)); rintro e w18 ⟨rfl, hi, hb, hk⟩; have n0_ := Aside0.mk (KeepBut.trans (by repeat (first | (with_reducible first | exact HK.out | apply KeepBut.set_ | apply keep_drewN | apply keep_drew | apply keep_alloc) | exact HK.out)) hk (.inl rfl)); have n1_ := Aside0.mk (hb); have n2_ := Aside0.mk (hi); clear HK; clear HB; clear HI0; have HK := n0_; have HB := n1_; have HI0 := n2_; clear n0_ n1_ n2_; (try clear hb); (try clear hb2); (try clear hk); (try clear hi))); try go_wp2_with (first | (go_at_call 55; (with_reducible refine (say_parser_fail.calls g s0_0 s0_1 s0_2 s0_3 t135 t136 t137 w0 _ ?side1 ?side2 A16.out).mono ?_); (case side1 => repeat (first | (with_reducible first | exact HI0.out | apply IsS74.alloc | apply IsS74.drewN | apply IsS74.drew | apply IsS74.set_1 | apply IsS74.set_2 | apply IsS74.set_3) | exact HI0.out)); (case side2 => repeat (first | (with_reducible first | exact HB.out | apply below_alloc | apply pw_below_drewN | apply below_drew1 | refine below_set ?_ (IsS74.ge HI0.out)) | exact HB.out)); rintro e w18 ⟨rfl, hi, hb, hk⟩; have n0_ := Aside0.mk (KeepBut.trans (by repeat (first | (with_reducible first | exact HK.out | apply KeepBut.set_ | apply keep_drewN | apply keep_drew | apply keep_alloc) | exact HK.out)) hk (.inl rfl)); have n1_ := Aside0.mk (hb); have n2_ := Aside0.mk (hi); clear HK; clear HB; clear HI0; have HK := n0_; have HB := n1_; have HI0 := n2_; clear n0_ n1_ n2_; (try clear hb); (try clear hb2); (try clear hk); (try clear hi))))
            go_ret
            exact ⟨by first | rfl | (simp [errW_none, errW_some] <;> rfl) | (simp [*, errW_none, errW_some] <;> rfl), by repeat (first | (with_reducible first | exact HI0.out | apply IsS74.alloc | apply IsS74.drewN | apply IsS74.drew | apply IsS74.set_1 | apply IsS74.set_2 | apply IsS74.set_3) | exact HI0.out), by repeat (first | (with_reducible first | exact HB.out | apply below_alloc | apply pw_below_drewN | apply below_drew1 | refine below_set ?_ (IsS74.ge HI0.out)) | exact HB.out), by repeat (first | (with_reducible first | exact HK.out | apply KeepBut.set_ | apply keep_drewN | apply keep_drew | apply keep_alloc) | exact HK.out)⟩
        · rw [if_neg c10] at H
          exact absurd H (by simp)
      · rw [if_neg c9] at H
        exact absurd H (by simp)

end Go.Proofs.Ytokkjnfdfbpphaa.A
namespace Go.Proofs.Ytokkjnfdfbpphaa.A
open Go.RowKit Go.Proofs.YtokkjnfdfbpphaaW.PrintWords Go.Proofs.YtokkjnfdfbpphaaW.PrintLast Go.Proofs.YtokkjnfdfbpphaaW.PrintMore
attribute [local go_sem] max2_int min2_int max_two min_two max_three min_three max_four min_four   -- for this text's walks alone
set_option linter.unusedVariables false
set_option linter.unusedSimpArgs false

/-! ### say_digits: function 69 -/
def say_digits.f (a0 : ByteArray) : Option (Int × Bool) := match digitsOf a0.data.toList with | some n => some ((n : Int), true) | none => some (0, false)
def digN (x : Option Nat) : Int := match x with | some n => (n : Int) | none => 0
def digB (x : Option Nat) : Bool := match x with | some _ => true | none => false
def DigBad (s : ByteArray) : Prop := s.size = 0 ∨ (∃ h : 1 < s.size, s[0] = 48) ∨ 20 < s.size
set_option maxRecDepth 100000 in
set_option maxHeartbeats 2000000 in
theorem digits_bad (s : ByteArray) (w : World) (h : DigBad s) :
    Calls Try.prog 69 #[.string s] w fun e w' => e = .returned (.tuple #[.int .u64 0, .bool false]) ∧ Below w.heap.size w w' := by
  unfold DigBad at h
  have hsz : s.toList.length = s.size := by rw [Lib.toList_data]; simp
  by_cases h0 : s.size = 0
  · have hl : s.toList = [] := List.eq_nil_of_length_eq_zero (by omega)
    clear h
    go_enter Try.func69, Try.ntmps69
    go_wp2
    refine bodyPost_ret (results_tmp2 rfl _ _ _) rfl ⟨rfl, Below.refl _ _⟩
  · have hl : ¬ s.toList = [] := fun e => h0 (by rw [← hsz, e]; rfl)
    have hz : 0 < s.size := by omega
    by_cases h1 : 1 < s.size
    · have d1 : decide ((1 : Int) < (s.size : Int)) = true := by simp; omega
      by_cases h48 : s[0] = 48
      · have e48 : ((s[0].toNat : Int) == 48) = true := u8_eq' s[0] 48 h48
        clear h hsz
        go_enter Try.func69, Try.ntmps69
        go_wp2
        refine bodyPost_ret (results_tmp2 rfl _ _ _) rfl ⟨rfl, Below.refl _ _⟩
      · have e48 : ((s[0].toNat : Int) == 48) = false := u8_ne s[0] 48 h48
        have h20 : 20 < s.size := by
          rcases h with h | ⟨_, h⟩ | h
          · omega
          · exact absurd h h48
          · exact h
        have d2 : decide ((20 : Int) < (s.size : Int)) = true := by simp; omega
        clear h hsz
        go_enter Try.func69, Try.ntmps69
        go_wp2
        refine bodyPost_ret (results_tmp2 rfl _ _ _) rfl ⟨rfl, Below.refl _ _⟩
    · exfalso
      rcases h with h | ⟨h, _⟩ | h <;> omega
set_option maxRecDepth 100000 in
set_option maxHeartbeats 2000000 in
theorem digits_good (s : ByteArray) (w : World) (h : ¬ DigBad s) :
    Calls Try.prog 69 #[.string s] w fun e w' => e = .returned (.tuple #[.int .u64 (digN (digFold 0 s.data.toList)), .bool (digB (digFold 0 s.data.toList))]) ∧ Below w.heap.size w w' := by
  unfold DigBad at h
  have hsz : s.toList.length = s.size := by rw [Lib.toList_data]; simp
  have h0 : ¬ s.size = 0 := fun e => h (.inl e)
  have h20 : s.size ≤ 20 := by
    rcases Nat.lt_or_ge 20 s.size with h' | h'
    · exact absurd (.inr (.inr h')) h
    · exact h'
  have hl : ¬ s.toList = [] := fun e => h0 (by rw [← hsz, e]; rfl)
  have hle : s.toList.isEmpty = false := by simpa using hl
  have hz : 0 < s.size := by omega
  have d2 : decide ((20 : Int) < (s.size : Int)) = false := by simp; omega
  have hcv := Lib.run_convert_string_bytes (P := Try.prog) w 9 55 5 s Try.underlying9 Try.underlying55 Try.underlying5
  have HX := Aside0.mk (Lib.bytesWorld_cell w 5 s)
  have HN := Aside0.mk (Lib.bytesWorld_size w 5 s)
  have HO := Aside0.mk (Lib.bytesWorld_at_old w 5 s)
  have HWW : Below w.heap.size w (Lib.bytesWorld w 5 s) := ⟨by simp [Lib.bytesWorld, World.freeze]; rfl, by simp [Lib.bytesWorld, World.freeze], by simp [Lib.bytesWorld, World.freeze]; rfl, by rw [HN.out]; omega, HO.out⟩
  have HW := Aside0.mk HWW
  clear HWW
  generalize Lib.bytesWorld w 5 s = w1 at *
  generalize grownCap w s.size 0 5 = cap at *
  by_cases h1 : 1 < s.size
  · have d1 : decide ((1 : Int) < (s.size : Int)) = true := by simp; omega
    have e48 : ((s[0].toNat : Int) == 48) = false := u8_ne s[0] 48 (fun e => h (.inr (.inl ⟨h1, e⟩)))
    clear h hsz
    go_enter Try.func69, Try.ntmps69
    go_wp2
    go_loop [4, 28] (fun n i => ∃ (k N : Nat), k ≤ s.size ∧ i = .int .i64 (k : Int) ∧ n = .int .u64 (N : Int) ∧ Aside0 (N < 18446744073709551616) ∧ Aside0 (digFold 0 s.data.toList = digFold N (s.data.toList.drop k)))
      (fun _ i => s.size - (intOf i).toNat)
    case atStart => exact ⟨0, 0, by omega, rfl, rfl, ⟨by omega⟩, ⟨by simp⟩⟩
    case round =>
      obtain ⟨k, N, hk, rfl, rfl, hN, hr⟩ := hrel
      by_cases hlt : k < s.size
      · have hcell : w1.cell? ⟨w.heap.size, k, none⟩ = some (.int .u8 (s[k].toNat : Int)) := by
          have := HX.out k hlt
          rwa [show s.data.toList.getD k 0 = s[k] from by simp [List.getD, hlt]; rfl] at this
        have hst := Aside0.mk (drop_cons s k hlt)
        have hc := s[k].toNat_lt
        clear hcv
        go_wp2_with fail
        · have hbig : (18446744073709551615 - ((s[k].toNat : Int) - 48) % 256) / 10 < (N : Int) := by assumption
          have hf := digFold_big (s.data.toList.drop (k + 1)) hbig
          refine bodyPost_ret (results_tmp2 rfl _ _ _) rfl ⟨?_, HW.out⟩
          rw [hr.out, hst.out, hf]
          rfl
        · have hsm : (N : Int) ≤ (18446744073709551615 - ((s[k].toNat : Int) - 48) % 256) / 10 := by assumption
          obtain ⟨f1, f2, f3⟩ := digFold_next (s.data.toList.drop (k + 1)) hsm
          exact ⟨⟨k + 1, _, by omega, by go_num, congrArg (Value.int .u64) f3, ⟨f2⟩, ⟨by rw [hr.out, hst.out, f1]⟩⟩, by simp [intOf]; omega⟩
      · have hkt : k = s.size := by omega
        have hst : Aside0 (s.data.toList.drop k = []) := ⟨List.drop_of_length_le (by simp; omega)⟩
        clear hcv
        go_wp2_with fail
        refine bodyPost_ret (results_tmp2 rfl _ _ _) rfl ⟨?_, HW.out⟩
        rw [hr.out, hst.out]
        rfl
  · have d1 : decide ((1 : Int) < (s.size : Int)) = false := by simp; omega
    clear h hsz
    go_enter Try.func69, Try.ntmps69
    go_wp2
    go_loop [4, 28] (fun n i => ∃ (k N : Nat), k ≤ s.size ∧ i = .int .i64 (k : Int) ∧ n = .int .u64 (N : Int) ∧ Aside0 (N < 18446744073709551616) ∧ Aside0 (digFold 0 s.data.toList = digFold N (s.data.toList.drop k)))
      (fun _ i => s.size - (intOf i).toNat)
    case atStart => exact ⟨0, 0, by omega, rfl, rfl, ⟨by omega⟩, ⟨by simp⟩⟩
    case round =>
      obtain ⟨k, N, hk, rfl, rfl, hN, hr⟩ := hrel
      by_cases hlt : k < s.size
      · have hcell : w1.cell? ⟨w.heap.size, k, none⟩ = some (.int .u8 (s[k].toNat : Int)) := by
          have := HX.out k hlt
          rwa [show s.data.toList.getD k 0 = s[k] from by simp [List.getD, hlt]; rfl] at this
        have hst := Aside0.mk (drop_cons s k hlt)
        have hc := s[k].toNat_lt
        clear hcv
        go_wp2_with fail
        · have hbig : (18446744073709551615 - ((s[k].toNat : Int) - 48) % 256) / 10 < (N : Int) := by assumption
          have hf := digFold_big (s.data.toList.drop (k + 1)) hbig
          refine bodyPost_ret (results_tmp2 rfl _ _ _) rfl ⟨?_, HW.out⟩
          rw [hr.out, hst.out, hf]
          rfl
        · have hsm : (N : Int) ≤ (18446744073709551615 - ((s[k].toNat : Int) - 48) % 256) / 10 := by assumption
          obtain ⟨f1, f2, f3⟩ := digFold_next (s.data.toList.drop (k + 1)) hsm
          exact ⟨⟨k + 1, _, by omega, by go_num, congrArg (Value.int .u64) f3, ⟨f2⟩, ⟨by rw [hr.out, hst.out, f1]⟩⟩, by simp [intOf]; omega⟩
      · have hkt : k = s.size := by omega
        have hst : Aside0 (s.data.toList.drop k = []) := ⟨List.drop_of_length_le (by simp; omega)⟩
        clear hcv
        go_wp2_with fail
        refine bodyPost_ret (results_tmp2 rfl _ _ _) rfl ⟨?_, HW.out⟩
        rw [hr.out, hst.out]
        rfl
theorem digitsOf_bad (s : ByteArray) (h : DigBad s) : digitsOf s.data.toList = none := by
  unfold DigBad at h
  by_cases h0 : s.size = 0
  · have : s.data.toList = [] := List.eq_nil_of_length_eq_zero (by simpa using h0)
    rw [this]; rfl
  · have e := drop_cons s 0 (by omega)
    rw [List.drop_zero] at e
    have hl : (s.data.toList.drop 1).length = s.size - 1 := by simp
    rw [e]; dsimp only [digitsOf]
    rw [if_pos]
    rcases h with h | ⟨h, h'⟩ | h
    · exact absurd h h0
    · left; exact ⟨by simp only [Nat.zero_add]; omega, h'⟩
    · right; simp only [Nat.zero_add]; omega
theorem digitsOf_good (s : ByteArray) (h : ¬ DigBad s) : digitsOf s.data.toList = digFold 0 s.data.toList := by
  unfold DigBad at h
  have h0 : ¬ s.size = 0 := fun e => h (.inl e)
  have e := drop_cons s 0 (by omega)
  rw [List.drop_zero] at e
  have hl : (s.data.toList.drop 1).length = s.size - 1 := by simp
  rw [e]; dsimp only [digitsOf]
  rw [if_neg]
  rintro (⟨h1, h2⟩ | h1)
  · exact h (.inr (.inl ⟨by simp only [Nat.zero_add] at h1; omega, h2⟩))
  · exact h (.inr (.inr (by simp only [Nat.zero_add] at h1; omega)))
theorem say_digits.calls (a0 : ByteArray) (r1 : Int) (r2 : Bool) (w : World) (h : say_digits.f a0 = some (r1, r2)) :
    Calls Try.prog 69 #[.string a0] w fun e w' => e = .returned (.tuple #[.int .u64 r1, .bool r2]) ∧ Below w.heap.size w w' := by
  by_cases hb : DigBad a0
  · unfold say_digits.f at h
    rw [digitsOf_bad a0 hb] at h
    simp only [Option.some.injEq, Prod.mk.injEq] at h
    obtain ⟨rfl, rfl⟩ := h
    exact digits_bad a0 w hb
  · unfold say_digits.f at h
    rw [digitsOf_good a0 hb] at h
    refine (digits_good a0 w hb).mono ?_
    rintro e w' ⟨rfl, hw⟩
    cases hf : digFold 0 a0.data.toList with
    | none =>
      rw [hf] at h
      simp only [Option.some.injEq, Prod.mk.injEq] at h
      obtain ⟨rfl, rfl⟩ := h
      exact ⟨rfl, hw⟩
    | some n =>
      rw [hf] at h
      simp only [Option.some.injEq, Prod.mk.injEq] at h
      obtain ⟨rfl, rfl⟩ := h
      exact ⟨rfl, hw⟩

end Go.Proofs.Ytokkjnfdfbpphaa.A
namespace Go.Proofs.Ytokkjnfdfbpphaa.A
open Go.RowKit Go.Proofs.YtokkjnfdfbpphaaW.PrintWords Go.Proofs.YtokkjnfdfbpphaaW.PrintLast Go.Proofs.YtokkjnfdfbpphaaW.PrintMore
attribute [local go_sem] max2_int min2_int max_two min_two max_three min_three max_four min_four   -- for this text's walks alone
set_option linter.unusedVariables false
set_option linter.unusedSimpArgs false

/-! ### say_parser_number: function 56 -/
def say_parser_number.f (s0_0 : List (S28)) (s0_1 : Int) (s0_2 : Int) (s0_3 : Int) : Option (Int × Int × Int × Int) := (say_parser_take.f s0_0 s0_1 s0_2 s0_3 1).bind fun t =>
  if t.2.2.2 ≥ 0 then some (0, t.2.1, t.2.2.1, t.2.2.2)
  else if 0 < t.1.size then
    match numVal t.1.data.toList with
    | some n => some (n, t.2.1, t.2.2.1, t.2.2.2)
    | none => (say_parser_fail.f s0_0 s0_1 t.2.2.1 t.2.2.2).bind fun q => some (0, q.1, q.2.1, q.2.2)
  else none
set_option maxRecDepth 100000 in
set_option maxHeartbeats 4000000 in
theorem say_parser_number.calls (g : Nat) (s0_0 : List (S28)) (s0_1 : Int) (s0_2 : Int) (s0_3 : Int) (r1 : Int) (r2 : Int) (r3 : Int) (r4 : Int) (w0 w : World) (hI : IsS74 w0 w g s0_0 s0_1 s0_2 s0_3) (hB : Below w0.heap.size w0 w) (h : say_parser_number.f s0_0 s0_1 s0_2 s0_3 = some (r1, r2, r3, r4)) :
    Calls Try.prog 56 #[.pointer (some ⟨g, 0, none⟩)] w fun e w' => e = .returned (.int .i64 r1) ∧ IsS74 w0 w' g s0_0 r2 r3 r4 ∧ Below w0.heap.size w0 w' ∧ KeepBut w w' g none := by
  unfold say_parser_number.f at h
  obtain ⟨⟨t1, t2, t3, t4⟩, ht, h⟩ := Option.bind_eq_some_iff.mp h
  dsimp only at h
  have HT := Aside0.mk ht
  have HI := Aside0.mk hI
  have HB := Aside0.mk hB
  obtain ⟨A0, c0, hb, hg, hC⟩ := hI
  have hc1 := cellS74_1 hb
  clear ht hB hb hg hC
  by_cases h4 : t4 ≥ 0
  · rw [if_pos h4] at h
    simp only [Option.some.injEq, Prod.mk.injEq] at h
    obtain ⟨rfl, rfl, rfl, rfl⟩ := h
    have hd4 : decide (0 ≤ t4) = true := decide_eq_true h4
    go_enter Try.func56, Try.ntmps56
    go_wp2_with fail
    refine (say_parser_take.calls g s0_0 s0_1 s0_2 s0_3 1 _ _ _ _ w0 _ HI.out HB.out HT.out).mono ?_
    rintro e w2 ⟨rfl, hi, hb2, hk⟩
    have hc3 := cellS74_3 hi.choose_spec.choose_spec.1
    go_wp2_with fail
    go_ret
    exact ⟨rfl, hi, hb2, hk⟩
  · rw [if_neg h4] at h
    have hd4 : decide (0 ≤ t4) = false := decide_eq_false h4
    by_cases hz : 0 < t1.size
    · rw [if_pos hz] at h
      have hh := head_get t1 hz
      by_cases h45 : t1[0] = 45
      · have e45 : ((t1[0].toNat : Int) == 45) = true := u8_eq' t1[0] 45 h45
        have h1s : (1 : Int) ≤ (t1.size : Int) := by omega
        have hnv : numVal t1.data.toList = (digitsOf (t1.extract 1 t1.size).data.toList).bind numNeg := by
          unfold numVal; rw [if_pos (by rw [hh, h45]), ext_tail]
        rw [hnv] at h
        cases hd : digitsOf (t1.extract 1 t1.size).data.toList with
        | none =>
          rw [hd] at h
          obtain ⟨⟨q1, q2, q3⟩, hq, h⟩ := Option.bind_eq_some_iff.mp h
          simp only [Option.some.injEq, Prod.mk.injEq] at h
          obtain ⟨rfl, rfl, rfl, rfl⟩ := h
          have HQ := Aside0.mk hq
          have HD : Aside0 (say_digits.f (t1.extract 1 t1.size) = some (0, false)) := ⟨by unfold say_digits.f; rw [hd]⟩
          clear hq hd hnv hh h45 h4
          go_enter Try.func56, Try.ntmps56
          go_wp2_with fail
          refine (say_parser_take.calls g s0_0 s0_1 s0_2 s0_3 1 _ _ _ _ w0 _ HI.out HB.out HT.out).mono ?_
          rintro e w2 ⟨rfl, hi, hb2, hk⟩
          have hc3 := cellS74_3 hi.choose_spec.choose_spec.1
          have HI2 := Aside0.mk hi
          have HB2 := Aside0.mk hb2
          have HK2 := Aside0.mk hk
          clear hi hb2 hk
          go_wp2_with fail
          refine (say_digits.calls (t1.extract 1 t1.size) _ _ _ HD.out).mono ?_
          rintro e w3 ⟨rfl, hb3⟩
          have HI3 := Aside0.mk (IsS74.below HI2.out hb3)
          have HB3 := Aside0.mk (below_weaken HB2.out HB2.out.size hb3)
          have HK3 := Aside0.mk (HK2.out.trans (KeepBut.of_below hb3 g none) (.inl rfl))
          have hf1 := blk_frozen HI3.out.choose_spec.choose_spec.1 1
          have hd1 := cellS74_1 HI3.out.choose_spec.choose_spec.1
          clear hb3 hc3
          go_wp2_with fail
          · refine (say_parser_fail.calls g s0_0 s0_1 t3 t4 _ _ _ w0 _ (IsS74.set_1 HI3.out _) (below_set HB3.out (IsS74.ge HI3.out)) HQ.out).mono ?_
            rintro e w4 ⟨rfl, hi, hb4, hk⟩
            go_wp2_with fail
            go_ret
            exact ⟨rfl, hi, hb4, (HK3.out.set_ 1 _).trans hk (.inl rfl)⟩
        | some n =>
          rw [hd] at h
          obtain ⟨N, hN⟩ : ∃ N : Int, N = (n : Int) := ⟨_, rfl⟩
          have HD : Aside0 (say_digits.f (t1.extract 1 t1.size) = some (N, true)) := ⟨by unfold say_digits.f; rw [hd, hN]⟩
          have HX := Aside0.mk h
          have HN := Aside0.mk hN
          have hN0 : 0 ≤ N := by omega
          clear hN
          have HPos : ∀ h : 0 < N ∧ N ≤ 9223372036854775808, r1 = -N ∧ r2 = t2 ∧ r3 = t3 ∧ r4 = t4 := fun h => by
            have hx := HX.out
            rw [show (some n).bind numNeg = some (-N) from by show numNeg n = _; unfold numNeg; rw [if_neg (by have := HN.out; omega), HN.out]] at hx
            simp only [Option.some.injEq, Prod.mk.injEq] at hx
            exact ⟨hx.1.symm, hx.2.1.symm, hx.2.2.1.symm, hx.2.2.2.symm⟩
          have HNeg : ∀ h : N = 0 ∨ 9223372036854775808 < N, r1 = 0 ∧ say_parser_fail.f s0_0 s0_1 t3 t4 = some (r2, r3, r4) := fun h => by
            have hx := HX.out
            rw [show (some n).bind numNeg = none from by show numNeg n = _; unfold numNeg; rw [if_pos (by have := HN.out; omega)]] at hx
            obtain ⟨⟨q1, q2, q3⟩, hq, h⟩ := Option.bind_eq_some_iff.mp hx
            simp only [Option.some.injEq, Prod.mk.injEq] at h
            obtain ⟨rfl, rfl, rfl, rfl⟩ := h
            exact ⟨rfl, hq⟩
          have HP := Aside0.mk HPos
          have HM := Aside0.mk HNeg
          clear hd hnv hh h45 h4 h HPos HNeg
          go_enter Try.func56, Try.ntmps56
          go_wp2_with fail
          refine (say_parser_take.calls g s0_0 s0_1 s0_2 s0_3 1 _ _ _ _ w0 _ HI.out HB.out HT.out).mono ?_
          rintro e w2 ⟨rfl, hi, hb2, hk⟩
          have hc3 := cellS74_3 hi.choose_spec.choose_spec.1
          have HI2 := Aside0.mk hi
          have HB2 := Aside0.mk hb2
          have HK2 := Aside0.mk hk
          clear hi hb2 hk
          go_wp2_with fail
          refine (say_digits.calls (t1.extract 1 t1.size) _ _ _ HD.out).mono ?_
          rintro e w3 ⟨rfl, hb3⟩
          have HI3 := Aside0.mk (IsS74.below HI2.out hb3)
          have HB3 := Aside0.mk (below_weaken HB2.out HB2.out.size hb3)
          have HK3 := Aside0.mk (HK2.out.trans (KeepBut.of_below hb3 g none) (.inl rfl))
          have hf1 := blk_frozen HI3.out.choose_spec.choose_spec.1 1
          have hd1 := cellS74_1 HI3.out.choose_spec.choose_spec.1
          clear hb3 hc3
          go_wp2_with fail
          rotate_right 1
          · have hlt : 0 < N ∧ N ≤ 9223372036854775808 := by
              have h1 : ¬ N = 0 := by assumption
              have h2 : (N == 0) = false ∧ N ≤ 9223372036854775808 := by assumption
              omega
            obtain ⟨rfl, rfl, rfl, rfl⟩ := HP.out hlt
            go_ret
            refine ⟨?_, HI3.out, HB3.out, HK3.out⟩
            have hv : wrap64 (IntKind.u64.wrap (-N)) = -N := by
              have hu : IntKind.u64.wrap (-N) = 18446744073709551616 - N := by
                show -N % 18446744073709551616 = _
                omega
              rw [hu]; unfold wrap64; omega
            rw [hv]
            rfl
          all_goals
            have hge : N = 0 ∨ 9223372036854775808 < N := by
              first
                | (left; assumption)
                | (have h2 : (N == 0) = true ∨ 9223372036854775808 < N := by assumption
                   rcases h2 with h2 | h2
                   · left; simpa using h2
                   · right; exact h2)
            obtain ⟨rfl, hq⟩ := HM.out hge
            have HQ := Aside0.mk hq
            clear hq hge
            refine (say_parser_fail.calls g s0_0 s0_1 t3 t4 _ _ _ w0 _ (IsS74.set_1 HI3.out _) (below_set HB3.out (IsS74.ge HI3.out)) HQ.out).mono ?_
            rintro e w4 ⟨rfl, hi, hb4, hk⟩
            go_wp2_with fail
            go_ret
            exact ⟨rfl, hi, hb4, (HK3.out.set_ 1 _).trans hk (.inl rfl)⟩
      · have e45 : ((t1[0].toNat : Int) == 45) = false := u8_ne t1[0] 45 h45
        have hnv : numVal t1.data.toList = (digitsOf t1.data.toList).bind numPos := by
          unfold numVal; rw [if_neg (by rw [hh]; simpa using h45)]
        rw [hnv] at h
        cases hd : digitsOf t1.data.toList with
        | none =>
          rw [hd] at h
          obtain ⟨⟨q1, q2, q3⟩, hq, h⟩ := Option.bind_eq_some_iff.mp h
          simp only [Option.some.injEq, Prod.mk.injEq] at h
          obtain ⟨rfl, rfl, rfl, rfl⟩ := h
          have HQ := Aside0.mk hq
          have HD : Aside0 (say_digits.f t1 = some (0, false)) := ⟨by unfold say_digits.f; rw [hd]⟩
          clear hq hd hnv hh h45 h4
          go_enter Try.func56, Try.ntmps56
          go_wp2_with fail
          refine (say_parser_take.calls g s0_0 s0_1 s0_2 s0_3 1 _ _ _ _ w0 _ HI.out HB.out HT.out).mono ?_
          rintro e w2 ⟨rfl, hi, hb2, hk⟩
          have hc3 := cellS74_3 hi.choose_spec.choose_spec.1
          have HI2 := Aside0.mk hi
          have HB2 := Aside0.mk hb2
          have HK2 := Aside0.mk hk
          clear hi hb2 hk
          go_wp2_with fail
          refine (say_digits.calls t1 _ _ _ HD.out).mono ?_
          rintro e w3 ⟨rfl, hb3⟩
          have HI3 := Aside0.mk (IsS74.below HI2.out hb3)
          have HB3 := Aside0.mk (below_weaken HB2.out HB2.out.size hb3)
          have HK3 := Aside0.mk (HK2.out.trans (KeepBut.of_below hb3 g none) (.inl rfl))
          have hf1 := blk_frozen HI3.out.choose_spec.choose_spec.1 1
          have hd1 := cellS74_1 HI3.out.choose_spec.choose_spec.1
          clear hb3 hc3
          go_wp2_with fail
          refine (say_parser_fail.calls g s0_0 s0_1 t3 t4 _ _ _ w0 _ (IsS74.set_1 HI3.out _) (below_set HB3.out (IsS74.ge HI3.out)) HQ.out).mono ?_
          rintro e w4 ⟨rfl, hi, hb4, hk⟩
          go_wp2_with fail
          go_ret
          exact ⟨rfl, hi, hb4, (HK3.out.set_ 1 _).trans hk (.inl rfl)⟩
        | some n =>
          rw [hd] at h
          obtain ⟨N, hN⟩ : ∃ N : Int, N = (n : Int) := ⟨_, rfl⟩
          have HD : Aside0 (say_digits.f t1 = some (N, true)) := ⟨by unfold say_digits.f; rw [hd, hN]⟩
          have HX := Aside0.mk h
          have HN := Aside0.mk hN
          have hN0 : 0 ≤ N := by omega
          clear hN
          clear hd hnv hh h45 h4 h
          go_enter Try.func56, Try.ntmps56
          go_wp2_with fail
          refine (say_parser_take.calls g s0_0 s0_1 s0_2 s0_3 1 _ _ _ _ w0 _ HI.out HB.out HT.out).mono ?_
          rintro e w2 ⟨rfl, hi, hb2, hk⟩
          have hc3 := cellS74_3 hi.choose_spec.choose_spec.1
          have HI2 := Aside0.mk hi
          have HB2 := Aside0.mk hb2
          have HK2 := Aside0.mk hk
          clear hi hb2 hk
          go_wp2_with fail
          refine (say_digits.calls t1 _ _ _ HD.out).mono ?_
          rintro e w3 ⟨rfl, hb3⟩
          have HI3 := Aside0.mk (IsS74.below HI2.out hb3)
          have HB3 := Aside0.mk (below_weaken HB2.out HB2.out.size hb3)
          have HK3 := Aside0.mk (HK2.out.trans (KeepBut.of_below hb3 g none) (.inl rfl))
          have hf1 := blk_frozen HI3.out.choose_spec.choose_spec.1 1
          have hd1 := cellS74_1 HI3.out.choose_spec.choose_spec.1
          clear hb3 hc3
          have HPos : ∀ h : N < 9223372036854775808, r1 = N ∧ r2 = t2 ∧ r3 = t3 ∧ r4 = t4 := fun h => by
            have hx := HX.out
            rw [show (some n).bind numPos = some N from by show numPos n = _; unfold numPos; rw [if_neg (by have := HN.out; omega), HN.out]] at hx
            simp only [Option.some.injEq, Prod.mk.injEq] at hx
            exact ⟨hx.1.symm, hx.2.1.symm, hx.2.2.1.symm, hx.2.2.2.symm⟩
          have HNeg : ∀ h : 9223372036854775808 ≤ N, r1 = 0 ∧ say_parser_fail.f s0_0 s0_1 t3 t4 = some (r2, r3, r4) := fun h => by
            have hx := HX.out
            rw [show (some n).bind numPos = none from by show numPos n = _; unfold numPos; rw [if_pos (by have := HN.out; omega)]] at hx
            obtain ⟨⟨q1, q2, q3⟩, hq, h⟩ := Option.bind_eq_some_iff.mp hx
            simp only [Option.some.injEq, Prod.mk.injEq] at h
            obtain ⟨rfl, rfl, rfl, rfl⟩ := h
            exact ⟨rfl, hq⟩
          have HP := Aside0.mk HPos
          have HM := Aside0.mk HNeg
          clear HPos HNeg
          go_wp2_with fail
          · have hlt : N < 9223372036854775808 := by assumption
            obtain ⟨rfl, rfl, rfl, rfl⟩ := HP.out hlt
            go_ret
            exact ⟨rfl, HI3.out, HB3.out, HK3.out⟩
          · have hge : 9223372036854775808 ≤ N := by assumption
            obtain ⟨rfl, hq⟩ := HM.out hge
            have HQ := Aside0.mk hq
            clear hq hge
            refine (say_parser_fail.calls g s0_0 s0_1 t3 t4 _ _ _ w0 _ (IsS74.set_1 HI3.out _) (below_set HB3.out (IsS74.ge HI3.out)) HQ.out).mono ?_
            rintro e w4 ⟨rfl, hi, hb4, hk⟩
            go_wp2_with fail
            go_ret
            exact ⟨rfl, hi, hb4, (HK3.out.set_ 1 _).trans hk (.inl rfl)⟩
    · rw [if_neg hz] at h
      exact absurd h (by simp)

end Go.Proofs.Ytokkjnfdfbpphaa.A
namespace Go.Proofs.Ytokkjnfdfbpphaa.A
open Go.RowKit Go.Proofs.YtokkjnfdfbpphaaW.PrintWords Go.Proofs.YtokkjnfdfbpphaaW.PrintLast Go.Proofs.YtokkjnfdfbpphaaW.PrintMore
attribute [local go_sem] max2_int min2_int max_two min_two max_three min_three max_four min_four   -- for this text's walks alone
set_option linter.unusedVariables false
set_option linter.unusedSimpArgs false

/-! ### say_parser_peek: function 75 -/
def say_parser_peek.f (s0_0 : List (S28)) (s0_1 : Int) (s0_2 : Int) (s0_3 : Int) (a1 : ByteArray) : Option (Bool × Int × Int × Int) := if s0_3 < 0 then (if s0_1 < (s0_0.length : Int) then (if 0 ≤ s0_1 then (if ((rd_T28 s0_0 s0_1).f0) = 3 then (some ((((rd_T28 s0_0 s0_1).f1).toList == a1.toList), s0_1, s0_2, s0_3)) else (some (false, s0_1, s0_2, s0_3))) else (none)) else (some (false, s0_1, s0_2, s0_3))) else (some (false, s0_1, s0_2, s0_3))
set_option maxHeartbeats 8000000 in
set_option maxRecDepth 100000 in
theorem say_parser_peek.calls (g : Nat) (s0_0 : List (S28)) (s0_1 : Int) (s0_2 : Int) (s0_3 : Int) (a1 : ByteArray) (r1 : Bool) (r2 : Int) (r3 : Int) (r4 : Int) (w0 w : World) (hI : IsS74 w0 w g s0_0 s0_1 s0_2 s0_3) (hB : Below w0.heap.size w0 w) (h : say_parser_peek.f s0_0 s0_1 s0_2 s0_3 a1 = some (r1, r2, r3, r4)) :
    Calls Try.prog 75 #[.pointer (some ⟨g, 0, none⟩), .string a1] w fun e w' => e = .returned (.bool r1) ∧ IsS74 w0 w' g s0_0 r2 r3 r4 ∧ Below w0.heap.size w0 w' ∧ KeepBut w w' g none := by
  have HI0 := Aside0.mk hI
  have HK := Aside0.mk (KeepBut.refl w g none)
  have HL := Aside0.mk hB.size
  clear hI
  have HW0 := Aside0.mk hB.size
  have HB := Aside0.mk hB
  clear hB
  have H : (if s0_3 < 0 then (if s0_1 < (s0_0.length : Int) then (if 0 ≤ s0_1 then (if ((rd_T28 s0_0 s0_1).f0) = 3 then (some ((((rd_T28 s0_0 s0_1).f1).toList == a1.toList), s0_1, s0_2, s0_3)) else (some (false, s0_1, s0_2, s0_3))) else (none)) else (some (false, s0_1, s0_2, s0_3))) else (some (false, s0_1, s0_2, s0_3))) = some (r1, r2, r3, r4) := h
  clear h
  by_cases c3 : s0_3 < 0
  · rw [if_pos c3] at H
    have c3b0 : decide (s0_3 < 0) = true := decide_eq_true c3
    clear c3
    by_cases c4 : s0_1 < (s0_0.length : Int)
    · rw [if_pos c4] at H
      have c4b0 : decide (s0_1 < (s0_0.length : Int)) = true := decide_eq_true c4
      clear c4
      by_cases c5 : 0 ≤ s0_1
      · rw [if_pos c5] at H
        have c5b0 : decide (0 ≤ s0_1) = true := decide_eq_true c5
        clear c5
        by_cases c6 : ((rd_T28 s0_0 s0_1).f0) = 3
        · rw [if_pos c6] at H
          have c6b0 : (((rd_T28 s0_0 s0_1).f0) == 3) = true := beq_iff_eq.mpr c6
          have c6b1 : (((rd_T28 s0_0 s0_1).f0) != 3) = false := bne_eq_false_iff_eq.mpr c6
          clear c6
          simp only [Option.some.injEq, Prod.mk.injEq] at H
          obtain ⟨rfl, rfl, rfl, rfl⟩ := H
          obtain ⟨ASz7_0, cSz7_0, HGz7, hgz7, HSz7_0⟩ := HI0.out
          have hcz7_0 := cellS74_0 HGz7
          have hcz7_1 := cellS74_1 HGz7
          have hcz7_2 := cellS74_2 HGz7
          have hcz7_3 := cellS74_3 HGz7
          have hfz7_1 := blk_frozen HGz7 1
          have hfz7_2 := blk_frozen HGz7 2
          have hfz7_3 := blk_frozen HGz7 3
          clear HGz7 hgz7
          have p138 : 0 ≤ (s0_1 : Int) := of_decide_eq_true (by first | (with_reducible assumption) | assumption)
          have q138 : s0_1 < (s0_0.length : Int) := of_decide_eq_true (by first | (with_reducible assumption) | assumption)
          obtain ⟨ad138, e138, hx138_0, hx138_1, hx138_2⟩ := at_T28 HSz7_0 s0_1 p138 q138
          cases e138
          replace hx138_0 := pw_cell_below HB.out hx138_0
          replace hx138_1 := pw_cell_below HB.out hx138_1
          replace hx138_2 := pw_cell_below HB.out hx138_2
          replace p138 := eq_true p138
          replace q138 := eq_true q138
          have p139 : 0 ≤ (s0_1 : Int) := of_decide_eq_true (by first | (with_reducible assumption) | assumption)
          have q139 : s0_1 < (s0_0.length : Int) := of_decide_eq_true (by first | (with_reducible assumption) | assumption)
          obtain ⟨ad139, e139, hx139_0, hx139_1, hx139_2⟩ := at_T28 HSz7_0 s0_1 p139 q139
          obtain rfl : ad138 = ad139 := (by injection e139)
          replace hx139_0 := pw_cell_below HB.out hx139_0
          replace hx139_1 := pw_cell_below HB.out hx139_1
          replace hx139_2 := pw_cell_below HB.out hx139_2
          replace p139 := eq_true p139
          replace q139 := eq_true q139
          go_enter Try.func75, Try.ntmps75
          go_wp2
          repeat (go_quiet (fail); try go_wp2)
          go_ret
          exact ⟨by first | rfl | (simp [errW_none, errW_some] <;> rfl) | (simp [*, errW_none, errW_some] <;> rfl), by repeat (first | (with_reducible first | exact HI0.out | apply IsS74.alloc | apply IsS74.drewN | apply IsS74.drew | apply IsS74.set_1 | apply IsS74.set_2 | apply IsS74.set_3) | exact HI0.out), by repeat (first | (with_reducible first | exact HB.out | apply below_alloc | apply pw_below_drewN | apply below_drew1 | refine below_set ?_ (IsS74.ge HI0.out)) | exact HB.out), by repeat (first | (with_reducible first | exact HK.out | apply KeepBut.set_ | apply keep_drewN | apply keep_drew | apply keep_alloc) | exact HK.out)⟩
        · rw [if_neg c6] at H
          have c6b0 : (((rd_T28 s0_0 s0_1).f0) == 3) = false := beq_eq_false_iff_ne.mpr c6
          have c6b1 : (((rd_T28 s0_0 s0_1).f0) != 3) = true := bne_iff_ne.mpr c6
          simp only [Option.some.injEq, Prod.mk.injEq] at H
          obtain ⟨rfl, rfl, rfl, rfl⟩ := H
          obtain ⟨ASz8_0, cSz8_0, HGz8, hgz8, HSz8_0⟩ := HI0.out
          have hcz8_0 := cellS74_0 HGz8
          have hcz8_1 := cellS74_1 HGz8
          have hcz8_2 := cellS74_2 HGz8
          have hcz8_3 := cellS74_3 HGz8
          have hfz8_1 := blk_frozen HGz8 1
          have hfz8_2 := blk_frozen HGz8 2
          have hfz8_3 := blk_frozen HGz8 3
          clear HGz8 hgz8
          have p138 : 0 ≤ (s0_1 : Int) := of_decide_eq_true (by first | (with_reducible assumption) | assumption)
          have q138 : s0_1 < (s0_0.length : Int) := of_decide_eq_true (by first | (with_reducible assumption) | assumption)
          obtain ⟨ad138, e138, hx138_0, hx138_1, hx138_2⟩ := at_T28 HSz8_0 s0_1 p138 q138
          cases e138
          replace hx138_0 := pw_cell_below HB.out hx138_0
          replace hx138_1 := pw_cell_below HB.out hx138_1
          replace hx138_2 := pw_cell_below HB.out hx138_2
          replace p138 := eq_true p138
          replace q138 := eq_true q138
          go_enter Try.func75, Try.ntmps75
          go_wp2
          repeat (go_quiet (fail); try go_wp2)
          go_ret
          exact ⟨by first | rfl | (simp [errW_none, errW_some] <;> rfl) | (simp [*, errW_none, errW_some] <;> rfl), by repeat (first | (with_reducible first | exact HI0.out | apply IsS74.alloc | apply IsS74.drewN | apply IsS74.drew | apply IsS74.set_1 | apply IsS74.set_2 | apply IsS74.set_3) | exact HI0.out), by repeat (first | (with_reducible first | exact HB.out | apply below_alloc | apply pw_below_drewN | apply below_drew1 | refine below_set ?_ (IsS74.ge HI0.out)) | exact HB.out), by repeat (first | (with_reducible first | exact HK.out | apply KeepBut.set_ | apply keep_drewN | apply keep_drew | apply keep_alloc) | exact HK.out)⟩
      · rw [if_neg c5] at H
        exact absurd H (by simp)
    · rw [if_neg c4] at H
      have c4b0 : decide (s0_1 < (s0_0.length : Int)) = false := decide_eq_false c4
      clear c4
      simp only [Option.some.injEq, Prod.mk.injEq] at H
      obtain ⟨rfl, rfl, rfl, rfl⟩ := H
      obtain ⟨ASz9_0, cSz9_0, HGz9, hgz9, HSz9_0⟩ := HI0.out
      have hcz9_0 := cellS74_0 HGz9
      have hcz9_1 := cellS74_1 HGz9
      have hcz9_2 := cellS74_2 HGz9
      have hcz9_3 := cellS74_3 HGz9
      have hfz9_1 := blk_frozen HGz9 1
      have hfz9_2 := blk_frozen HGz9 2
      have hfz9_3 := blk_frozen HGz9 3
      clear HGz9 hgz9
      go_enter Try.func75, Try.ntmps75
      go_wp2
      repeat (go_quiet (fail); try go_wp2)
      go_ret
      exact ⟨by first | rfl | (simp [errW_none, errW_some] <;> rfl) | (simp [*, errW_none, errW_some] <;> rfl), by repeat (first | (with_reducible first | exact HI0.out | apply IsS74.alloc | apply IsS74.drewN | apply IsS74.drew | apply IsS74.set_1 | apply IsS74.set_2 | apply IsS74.set_3) | exact HI0.out), by repeat (first | (with_reducible first | exact HB.out | apply below_alloc | apply pw_below_drewN | apply below_drew1 | refine below_set ?_ (IsS74.ge HI0.out)) | exact HB.out), by repeat (first | (with_reducible first | exact HK.out | apply KeepBut.set_ | apply keep_drewN | apply keep_drew | apply keep_alloc) | exact HK.out)⟩
  · rw [if_neg c3] at H
    have c3b0 : decide (s0_3 < 0) = false := decide_eq_false c3
    clear c3
    simp only [Option.some.injEq, Prod.mk.injEq] at H
    obtain ⟨rfl, rfl, rfl, rfl⟩ := H
    obtain ⟨ASz10_0, cSz10_0, HGz10, hgz10, HSz10_0⟩ := HI0.out
    have hcz10_0 := cellS74_0 HGz10
    have hcz10_1 := cellS74_1 HGz10
    have hcz10_2 := cellS74_2 HGz10
    have hcz10_3 := cellS74_3 HGz10
    have hfz10_1 := blk_frozen HGz10 1
    have hfz10_2 := blk_frozen HGz10 2
    have hfz10_3 := blk_frozen HGz10 3
    clear HGz10 hgz10
    go_enter Try.func75, Try.ntmps75
    go_wp2
    repeat (go_quiet (fail); try go_wp2)
    go_ret
    exact ⟨by first | rfl | (simp [errW_none, errW_some] <;> rfl) | (simp [*, errW_none, errW_some] <;> rfl), by repeat (first | (with_reducible first | exact HI0.out | apply IsS74.alloc | apply IsS74.drewN | apply IsS74.drew | apply IsS74.set_1 | apply IsS74.set_2 | apply IsS74.set_3) | exact HI0.out), by repeat (first | (with_reducible first | exact HB.out | apply below_alloc | apply pw_below_drewN | apply below_drew1 | refine below_set ?_ (IsS74.ge HI0.out)) | exact HB.out), by repeat (first | (with_reducible first | exact HK.out | apply KeepBut.set_ | apply keep_drewN | apply keep_drew | apply keep_alloc) | exact HK.out)⟩

end Go.Proofs.Ytokkjnfdfbpphaa.A
namespace Go.Proofs.Ytokkjnfdfbpphaa.A
open Go.RowKit Go.Proofs.YtokkjnfdfbpphaaW.PrintWords Go.Proofs.YtokkjnfdfbpphaaW.PrintLast Go.Proofs.YtokkjnfdfbpphaaW.PrintMore
attribute [local go_sem] max2_int min2_int max_two min_two max_three min_three max_four min_four   -- for this text's walks alone
set_option linter.unusedVariables false
set_option linter.unusedSimpArgs false

/-! ### say_parser_mark: function 63 -/
def say_parser_mark.f (s0_0 : List (S28)) (s0_1 : Int) (s0_2 : Int) (s0_3 : Int) (a1 : ByteArray) : Option (Int × Int × Int) := (say_parser_peek.f s0_0 s0_1 s0_2 s0_3 a1).bind fun bt140 => (if bt140.1 = true then (some (wrap64 (bt140.2.1 + 1), bt140.2.2.1, bt140.2.2.2)) else ((say_parser_fail.f s0_0 bt140.2.1 bt140.2.2.1 bt140.2.2.2).bind fun bt144 => (some (bt144.1, bt144.2.1, bt144.2.2))))
set_option maxHeartbeats 8000000 in
set_option maxRecDepth 100000 in
theorem say_parser_mark.calls (g : Nat) (s0_0 : List (S28)) (s0_1 : Int) (s0_2 : Int) (s0_3 : Int) (a1 : ByteArray) (r1 : Int) (r2 : Int) (r3 : Int) (w0 w : World) (hI : IsS74 w0 w g s0_0 s0_1 s0_2 s0_3) (hB : Below w0.heap.size w0 w) (h : say_parser_mark.f s0_0 s0_1 s0_2 s0_3 a1 = some (r1, r2, r3)) :
    Calls Try.prog 63 #[.pointer (some ⟨g, 0, none⟩), .string a1] w fun e w' => e = .returned (.tuple #[]) ∧ IsS74 w0 w' g s0_0 r1 r2 r3 ∧ Below w0.heap.size w0 w' ∧ KeepBut w w' g none := by
  have HI0 := Aside0.mk hI
  have HK := Aside0.mk (KeepBut.refl w g none)
  have HL := Aside0.mk hB.size
  clear hI
  have HW0 := Aside0.mk hB.size
  have HB := Aside0.mk hB
  clear hB
  have H : ((say_parser_peek.f s0_0 s0_1 s0_2 s0_3 a1).bind fun bt140 => (if bt140.1 = true then (some (wrap64 (bt140.2.1 + 1), bt140.2.2.1, bt140.2.2.2)) else ((say_parser_fail.f s0_0 bt140.2.1 bt140.2.2.1 bt140.2.2.2).bind fun bt144 => (some (bt144.1, bt144.2.1, bt144.2.2))))) = some (r1, r2, r3) := h
  clear h
  replace H := Option.bind_eq_some_iff.mp H
  obtain ⟨⟨t140, t141, t142, t143⟩, A30, H⟩ := H
  replace H : (if t140 = true then (some (wrap64 (t141 + 1), t142, t143)) else ((say_parser_fail.f s0_0 t141 t142 t143).bind fun bt144 => (some (bt144.1, bt144.2.1, bt144.2.2)))) = some (r1, r2, r3) := H
  have A3 := Aside0.mk A30
  clear A30
  by_cases c4 : t140 = true
  · subst c4
    have H1 : (some (wrap64 (t141 + 1), t142, t143)) = some (r1, r2, r3) := by rw [if_pos rfl] at H; exact H
    clear H
    have H := H1
    clear H1
    simp only [Option.some.injEq, Prod.mk.injEq] at H
    obtain ⟨rfl, rfl, rfl⟩ := H
    go_enter Try.func63, Try.ntmps63
    go_wp2_with (first | ((with_reducible refine gate_callee (f := 75) rfl ?_); refine goesL_ (some 6) rfl rfl Try.func75 (by kernel_rfl) rfl #[.pointer (some ⟨g, 0, none⟩), .string a1] rfl (by (try simp only [List.map_toArray, List.map_cons, List.map_nil]); first | done | rfl | (simp only [List.length_drop, List.length_take]; rfl)) ?_; (with_reducible refine (say_parser_peek.calls g s0_0 s0_1 s0_2 s0_3 a1 true t141 t142 t143 w0 _ ?side1 ?side2 A3.out).mono ?_); (case side1 => repeat (first | (with_reducible first | exact HI0.out | apply IsS74.alloc | apply IsS74.drewN | apply IsS74.drew | apply IsS74.set_1 | apply IsS74.set_2 | apply IsS74.set_3) | exact HI0.out)); (case side2 => repeat (first | (with_reducible first | exact HB.out | apply below_alloc | apply pw_below_drewN | apply below_drew1 | refine below_set ?_ (IsS74.ge HI0.out)) | exact HB.out)); rintro e w5 ⟨rfl, hi, hb, hk⟩; refine ⟨_, rfl, ?_⟩; have n0_ := Aside0.mk (KeepBut.trans (by repeat (first | (with_reducible first | exact HK.out | apply KeepBut.set_ | apply keep_drewN | apply keep_drew | apply keep_alloc) | exact HK.out)) hk (.inl rfl)); have n1_ := Aside0.mk (hb); have n2_ := Aside0.mk (hi); clear HK; clear HB; clear HI0; have HK := n0_; have HB := n1_; have HI0 := n2_; clear n0_ n1_ n2_; (try clear hb); (try clear hb2); (try clear hk); (try clear hi); obtain ⟨ASz6_0, cSz6_0, HGz6, hgz6, HSz6_0⟩ := HI0.out; have hcz6_0 := cellS74_0 HGz6; have hcz6_1 := cellS74_1 HGz6; have hcz6_2 := cellS74_2 HGz6; have hcz6_3 := cellS74_3 HGz6; have hfz6_1 := blk_frozen HGz6 1; have hfz6_2 := blk_frozen HGz6 2; have hfz6_3 := blk_frozen HGz6 3; clear HGz6 hgz6))
    first | go_end0 | ((try simp only [Exit.inBlock, Exit.then]); refine bodyPost_ret (results_none rfl _ _ _) rfl ?_)
    exact ⟨by first | rfl | (simp [errW_none, errW_some] <;> rfl) | (simp [*, errW_none, errW_some] <;> rfl), by repeat (first | (with_reducible first | exact HI0.out | apply IsS74.alloc | apply IsS74.drewN | apply IsS74.drew | apply IsS74.set_1 | apply IsS74.set_2 | apply IsS74.set_3) | exact HI0.out), by repeat (first | (with_reducible first | exact HB.out | apply below_alloc | apply pw_below_drewN | apply below_drew1 | refine below_set ?_ (IsS74.ge HI0.out)) | exact HB.out), by repeat (first | (with_reducible first | exact HK.out | apply KeepBut.set_ | apply keep_drewN | apply keep_drew | apply keep_alloc) | exact HK.out)⟩
  · replace c4 := Bool.eq_false_iff.mpr c4
    subst c4
    have H1 : ((say_parser_fail.f s0_0 t141 t142 t143).bind fun bt144 => (some (bt144.1, bt144.2.1, bt144.2.2))) = some (r1, r2, r3) := by rw [if_neg (show ¬ (false = true) by decide)] at H; exact H
    clear H
    have H := H1
    clear H1
    replace H := Option.bind_eq_some_iff.mp H
    obtain ⟨⟨t144, t145, t146⟩, A70, H⟩ := H
    replace H : (some (t144, t145, t146)) = some (r1, r2, r3) := H
    have A7 := Aside0.mk A70
    clear A70
    simp only [Option.some.injEq, Prod.mk.injEq] at H
    obtain ⟨rfl, rfl, rfl⟩ := H
    go_enter Try.func63, Try.ntmps63
    go_wp2_with (first | ((with_reducible refine gate_callee (f := 75) rfl ?_); refine goesL_ (some 6) rfl rfl Try.func75 (by kernel_rfl) rfl #[.pointer (some ⟨g, 0, none⟩), .string a1] rfl (by (try simp only [List.map_toArray, List.map_cons, List.map_nil]); first | done | rfl | (simp only [List.length_drop, List.length_take]; rfl)) ?_; (with_reducible refine (say_parser_peek.calls g s0_0 s0_1 s0_2 s0_3 a1 false t141 t142 t143 w0 _ ?side1 ?side2 A3.out).mono ?_); (case side1 => repeat (first | (with_reducible first | exact HI0.out | apply IsS74.alloc | apply IsS74.drewN | apply IsS74.drew | apply IsS74.set_1 | apply IsS74.set_2 | apply IsS74.set_3) | exact HI0.out)); (case side2 => repeat (first | (with_reducible first | exact HB.out | apply below_alloc | apply pw_below_drewN | apply below_drew1 | refine below_set ?_ (IsS74.ge HI0.out)) | exact HB.out)); rintro e w8 ⟨rfl, hi, hb, hk⟩; refine ⟨_, rfl, ?_⟩; have n0_ := Aside0.mk (KeepBut.trans (by repeat (first | (with_reducible first | exact HK.out | apply KeepBut.set_ | apply keep_drewN | apply keep_drew | apply keep_alloc) | exact HK.out)) hk (.inl rfl)); have n1_ := Aside0.mk (hb); have n2_ := Aside0.mk (hi); clear HK; clear HB; clear HI0; have HK := n0_; have HB := n1_; have HI0 := n2_; clear n0_ n1_ n2_; (try clear hb); (try clear hb2); (try clear hk); (try clear hi)) | ((with_reducible refine gate_callee (f := 55) rfl ?_); refine goesL_ (some 9) rfl rfl Try.func55 (by kernel_rfl) rfl #[.pointer (some ⟨g, 0, none⟩)] rfl (by (try simp only [List.map_toArray, List.map_cons, List.map_nil]); first | done | rfl | (simp only [List.length_drop, List.length_take]; rfl)) ?_; (with_reducible refine (say_parser_fail.calls g s0_0 t141 t142 t143 t144 t145 t146 w0 _ ?side1 ?side2 A7.out).mono ?_); (case side1 => repeat (first | (with_reducible first | exact HI0.out | apply IsS74.alloc | apply IsS74.drewN | apply IsS74.drew | apply IsS74.set_1 | apply IsS74.set_2 | apply IsS74.set_3) | exact HI0.out)); (case side2 => repeat (first | (with_reducible first | exact HB.out | apply below_alloc | apply pw_below_drewN | apply below_drew1 | refine below_set ?_ (IsS74.ge HI0.out)) | exact HB.out)); rintro e w9 ⟨rfl, hi, hb, hk⟩; refine ⟨_, rfl, ?_⟩; have n0_ := Aside0.mk (KeepBut.trans (by repeat (first | (with_reducible first | exact HK.out | apply KeepBut.set_ | apply keep_drewN | apply keep_drew | apply keep_alloc) | exact HK.out)) hk (.inl rfl)); have n1_ := Aside0.mk (hb); have n2_ := Aside0.mk (hi); clear HK; clear HB; clear HI0; have HK := n0_; have HB := n1_; have HI0 := n2_; clear n0_ n1_ n2_; (try clear hb); (try clear hb2); (try clear hk); (try clear hi)))
    first | go_end0 | ((try simp only [Exit.inBlock, Exit.then]); refine bodyPost_ret (results_none rfl _ _ _) rfl ?_)
    exact ⟨by first | rfl | (simp [errW_none, errW_some] <;> rfl) | (simp [*, errW_none, errW_some] <;> rfl), by repeat (first | (with_reducible first | exact HI0.out | apply IsS74.alloc | apply IsS74.drewN | apply IsS74.drew | apply IsS74.set_1 | apply IsS74.set_2 | apply IsS74.set_3) | exact HI0.out), by repeat (first | (with_reducible first | exact HB.out | apply below_alloc | apply pw_below_drewN | apply below_drew1 | refine below_set ?_ (IsS74.ge HI0.out)) | exact HB.out), by repeat (first | (with_reducible first | exact HK.out | apply KeepBut.set_ | apply keep_drewN | apply keep_drew | apply keep_alloc) | exact HK.out)⟩

end Go.Proofs.Ytokkjnfdfbpphaa.A
namespace Go.Proofs.Ytokkjnfdfbpphaa.A
open Go.RowKit Go.Proofs.YtokkjnfdfbpphaaW.PrintWords Go.Proofs.YtokkjnfdfbpphaaW.PrintLast Go.Proofs.YtokkjnfdfbpphaaW.PrintMore
attribute [local go_sem] max2_int min2_int max_two min_two max_three min_three max_four min_four   -- for this text's walks alone
set_option linter.unusedVariables false
set_option linter.unusedSimpArgs false

/-! ### say_parser_names: function 72 -/
mutual
def say_parser_names.l0 : Nat → List ByteArray → Int → List (S28) → Int → Int → Int → Option (List ByteArray × Int × Int × Int)
  | 0, _, _, _, _, _, _ => none
  | k + 1, x3, x4, x1000, x1001, x1002, x1003 => if x1003 < 0 then ((say_parser_peek.f x1000 x1001 x1002 x1003 (⟨#[93]⟩ : ByteArray)).bind fun bt150 => (say_parser_names.j1 k x3 x4 (!bt150.1) x1000 bt150.2.1 bt150.2.2.1 bt150.2.2.2)) else (say_parser_names.j1 k x3 x4 false x1000 x1001 x1002 x1003)
def say_parser_names.j1 : Nat → List ByteArray → Int → Bool → List (S28) → Int → Int → Int → Option (List ByteArray × Int × Int × Int)
  | 0, _, _, _, _, _, _, _ => none
  | k + 1, x3, x4, x16, x1000, x1001, x1002, x1003 => if x16 = true then (if x4 > 0 then ((say_parser_mark.f x1000 x1001 x1002 x1003 (⟨#[44]⟩ : ByteArray)).bind fun bt157 => (say_parser_names.j2 k x3 x4 x1000 bt157.1 bt157.2.1 bt157.2.2)) else (say_parser_names.j2 k x3 x4 x1000 x1001 x1002 x1003)) else ((say_parser_mark.f x1000 x1001 x1002 x1003 (⟨#[93]⟩ : ByteArray)).bind fun bt154 => (some (x3, bt154.1, bt154.2.1, bt154.2.2)))
def say_parser_names.j2 : Nat → List ByteArray → Int → List (S28) → Int → Int → Int → Option (List ByteArray × Int × Int × Int)
  | 0, _, _, _, _, _, _ => none
  | k + 1, x3, x4, x1000, x1001, x1002, x1003 => if x4 ≥ 100 then ((say_parser_fail.f x1000 x1001 x1002 x1003).bind fun bt160 => ((say_parser_take.f x1000 bt160.1 bt160.2.1 bt160.2.2 2).bind fun bt163 => (if x3.length < 8796093022208 then (say_parser_names.l0 k (x3 ++ [bt163.1]) (wrap64 (x4 + 1)) x1000 bt163.2.1 bt163.2.2.1 bt163.2.2.2) else (none)))) else ((say_parser_take.f x1000 x1001 x1002 x1003 2).bind fun bt170 => (if x3.length < 8796093022208 then (say_parser_names.l0 k (x3 ++ [bt170.1]) (wrap64 (x4 + 1)) x1000 bt170.2.1 bt170.2.2.1 bt170.2.2.2) else (none)))
end
def say_parser_names.f (k : Nat) (s0_0 : List (S28)) (s0_1 : Int) (s0_2 : Int) (s0_3 : Int) : Option (List ByteArray × Int × Int × Int) := (say_parser_mark.f s0_0 s0_1 s0_2 s0_3 (⟨#[91]⟩ : ByteArray)).bind fun bt147 => (say_parser_names.l0 k ([] : List ByteArray) 0 s0_0 bt147.1 bt147.2.1 bt147.2.2)
theorem say_parser_names.mono_l : ∀ k, (∀ y0 y1 y2 y3 y4 y5, LeO (say_parser_names.l0 k y0 y1 y2 y3 y4 y5) (say_parser_names.l0 (k + 1) y0 y1 y2 y3 y4 y5)) ∧ (∀ y0 y1 y2 y3 y4 y5 y6, LeO (say_parser_names.j1 k y0 y1 y2 y3 y4 y5 y6) (say_parser_names.j1 (k + 1) y0 y1 y2 y3 y4 y5 y6)) ∧ (∀ y0 y1 y2 y3 y4 y5, LeO (say_parser_names.j2 k y0 y1 y2 y3 y4 y5) (say_parser_names.j2 (k + 1) y0 y1 y2 y3 y4 y5))
  | 0 => ⟨fun _ _ _ _ _ _ r h => by simp [say_parser_names.l0] at h, fun _ _ _ _ _ _ _ r h => by simp [say_parser_names.j1] at h, fun _ _ _ _ _ _ r h => by simp [say_parser_names.j2] at h⟩
  | k + 1 => by
    obtain ⟨ih0, ih1, ih2⟩ := say_parser_names.mono_l k
    refine ⟨?_, ?_, ?_⟩
    · intro y0 y1 y2 y3 y4 y5
      unfold say_parser_names.l0
      repeat' first
      | (with_reducible exact ih0 _ _ _ _ _ _)
      | (with_reducible exact ih1 _ _ _ _ _ _ _)
      | (with_reducible exact ih2 _ _ _ _ _ _)
      | (with_reducible exact LeO.refl _)
      | (with_reducible exact LeO.none _)
      | (with_reducible refine LeO.ite ?_ ?_)
      | (with_reducible refine LeO.bind ?_ (fun _ => ?_))
      | exact ih0 _ _ _ _ _ _
      | exact ih1 _ _ _ _ _ _ _
      | exact ih2 _ _ _ _ _ _
      | exact LeO.none _
      | refine LeO.ite ?_ ?_
      | refine LeO.bind ?_ (fun _ => ?_)
    · intro y0 y1 y2 y3 y4 y5 y6
      unfold say_parser_names.j1
      repeat' first
      | (with_reducible exact ih0 _ _ _ _ _ _)
      | (with_reducible exact ih1 _ _ _ _ _ _ _)
      | (with_reducible exact ih2 _ _ _ _ _ _)
      | (with_reducible exact LeO.refl _)
      | (with_reducible exact LeO.none _)
      | (with_reducible refine LeO.ite ?_ ?_)
      | (with_reducible refine LeO.bind ?_ (fun _ => ?_))
      | exact ih0 _ _ _ _ _ _
      | exact ih1 _ _ _ _ _ _ _
      | exact ih2 _ _ _ _ _ _
      | exact LeO.none _
      | refine LeO.ite ?_ ?_
      | refine LeO.bind ?_ (fun _ => ?_)
    · intro y0 y1 y2 y3 y4 y5
      unfold say_parser_names.j2
      repeat' first
      | (with_reducible exact ih0 _ _ _ _ _ _)
      | (with_reducible exact ih1 _ _ _ _ _ _ _)
      | (with_reducible exact ih2 _ _ _ _ _ _)
      | (with_reducible exact LeO.refl _)
      | (with_reducible exact LeO.none _)
      | (with_reducible refine LeO.ite ?_ ?_)
      | (with_reducible refine LeO.bind ?_ (fun _ => ?_))
      | exact ih0 _ _ _ _ _ _
      | exact ih1 _ _ _ _ _ _ _
      | exact ih2 _ _ _ _ _ _
      | exact LeO.none _
      | refine LeO.ite ?_ ?_
      | refine LeO.bind ?_ (fun _ => ?_)
theorem say_parser_names.mono : ∀ a0 a1 a2 a3 k, LeO (say_parser_names.f k a0 a1 a2 a3) (say_parser_names.f (k + 1) a0 a1 a2 a3) := by
  intro a0 a1 a2 a3 k
  obtain ⟨ih0, ih1, ih2⟩ := say_parser_names.mono_l k
  unfold say_parser_names.f
  repeat' first
      | (with_reducible exact ih0 _ _ _ _ _ _)
      | (with_reducible exact ih1 _ _ _ _ _ _ _)
      | (with_reducible exact ih2 _ _ _ _ _ _)
      | (with_reducible exact LeO.refl _)
      | (with_reducible exact LeO.none _)
      | (with_reducible refine LeO.ite ?_ ?_)
      | (with_reducible refine LeO.bind ?_ (fun _ => ?_))
      | exact ih0 _ _ _ _ _ _
      | exact ih1 _ _ _ _ _ _ _
      | exact ih2 _ _ _ _ _ _
      | exact LeO.none _
      | refine LeO.ite ?_ ?_
      | refine LeO.bind ?_ (fun _ => ?_)
set_option maxHeartbeats 8000000 in
set_option maxRecDepth 100000 in
theorem say_parser_names.calls (k : Nat) (g : Nat) (s0_0 : List (S28)) (s0_1 : Int) (s0_2 : Int) (s0_3 : Int) (r1 : List ByteArray) (r2 : Int) (r3 : Int) (r4 : Int) (w0 w : World) (hI : IsS74 w0 w g s0_0 s0_1 s0_2 s0_3) (hB : Below w0.heap.size w0 w) (h : say_parser_names.f k s0_0 s0_1 s0_2 s0_3 = some (r1, r2, r3, r4)) :
    Calls Try.prog 72 #[.pointer (some ⟨g, 0, none⟩)] w fun e w' => ∃ v0_ : Value, e = .returned (v0_) ∧ Kd.R Kd.string 9 w' w.heap.size (fun _ => True) v0_ r1 ∧ IsS74 w0 w' g s0_0 r2 r3 r4 ∧ Below w0.heap.size w0 w' ∧ KeepBut w w' g none := by
  have HI0 := Aside0.mk hI
  have HK := Aside0.mk (KeepBut.refl w g none)
  have HL := Aside0.mk hB.size
  clear hI
  have HW0 := Aside0.mk hB.size
  have HB := Aside0.mk hB
  clear hB
  have H : ((say_parser_mark.f s0_0 s0_1 s0_2 s0_3 (⟨#[91]⟩ : ByteArray)).bind fun bt147 => (say_parser_names.l0 k ([] : List ByteArray) 0 s0_0 bt147.1 bt147.2.1 bt147.2.2)) = some (r1, r2, r3, r4) := h
  clear h
  replace H := Option.bind_eq_some_iff.mp H
  obtain ⟨⟨t147, t148, t149⟩, A20, H⟩ := H
  replace H : (say_parser_names.l0 k ([] : List ByteArray) 0 s0_0 t147 t148 t149) = some (r1, r2, r3, r4) := H
  have A2 := Aside0.mk A20
  clear A20
  have H' := Aside0.mk H
  clear H
  go_enter Try.func72, Try.ntmps72
  go_wp2_with (first | ((with_reducible refine gate_callee (f := 63) rfl ?_); refine goesL_ (some 6) rfl rfl Try.func63 (by kernel_rfl) rfl #[.pointer (some ⟨g, 0, none⟩), .string (⟨#[91]⟩ : ByteArray)] rfl (by (try simp only [List.map_toArray, List.map_cons, List.map_nil]); first | done | rfl | (simp only [List.length_drop, List.length_take]; rfl)) ?_; (with_reducible refine (say_parser_mark.calls g s0_0 s0_1 s0_2 s0_3 (⟨#[91]⟩ : ByteArray) t147 t148 t149 w0 _ ?side1 ?side2 A2.out).mono ?_); (case side1 => repeat (first | (with_reducible first | exact HI0.out | apply IsS74.alloc | apply IsS74.drewN | apply IsS74.drew | apply IsS74.set_1 | apply IsS74.set_2 | apply IsS74.set_3) | exact HI0.out)); (case side2 => repeat (first | (with_reducible first | exact HB.out | apply below_alloc | apply pw_below_drewN | apply below_drew1 | refine below_set ?_ (IsS74.ge HI0.out)) | exact HB.out)); rintro e w3 ⟨rfl, hi, hb, hk⟩; refine ⟨_, rfl, ?_⟩; have n0_ := Aside0.mk (KeepBut.trans (by repeat (first | (with_reducible first | exact HK.out | apply KeepBut.set_ | apply keep_drewN | apply keep_drew | apply keep_alloc) | exact HK.out)) hk (.inl rfl)); have n1_ := Aside0.mk (hb); have n2_ := Aside0.mk (hi); clear HK; clear HB; clear HI0; have HK := n0_; have HB := n1_; have HI0 := n2_; clear n0_ n1_ n2_; (try clear hb); (try clear hb2); (try clear hk); (try clear hi)))
  go_loopg [3, 4] k (fun kq v3 v4 w' => ∃ (x3_1 : List ByteArray) (x4_1 : Int) (x1001_1 : Int) (x1002_1 : Int) (x1003_1 : Int), v4 = .int .i64 x4_1 ∧ Aside0 (say_parser_names.l0 kq x3_1 x4_1 s0_0 x1001_1 x1002_1 x1003_1 = some (r1, r2, r3, r4)) ∧ Aside0 (kq ≤ k) ∧ Aside0 (Kd.R Kd.string 9 w' w.heap.size (fun _ => True) v3 x3_1) ∧ Aside0 (IsS74 w0 w' g s0_0 x1001_1 x1002_1 x1003_1) ∧ Aside0 (KeepBut w w' g none) ∧ Aside0 (Below w0.heap.size w0 w'))
  case atStart => exact ⟨(([] : List ByteArray)), (0), (t147), (t148), (t149), (by first | rfl | (simp; done) | (simp [*]; done)), H', ⟨Nat.le_refl _⟩, ⟨by first | exact Kd.R_nil _ _ _ _ _ | exact Kd.N_nil _ _ _ _ _ | exact Kd.V_nil _ _ _ _ _ | exact Kd.Q_nil _ _ _ _ _ | exact Kd.S_nil _ _ _ _ _⟩, ⟨by repeat (first | (with_reducible first | exact HI0.out | apply IsS74.alloc | apply IsS74.drewN | apply IsS74.drew | apply IsS74.set_1 | apply IsS74.set_2 | apply IsS74.set_3) | exact HI0.out)⟩, ⟨by repeat (first | (with_reducible first | exact HK.out | apply KeepBut.set_ | apply keep_drewN | apply keep_drew | apply keep_alloc) | exact HK.out)⟩, ⟨by repeat (first | (with_reducible first | exact HB.out | apply below_alloc | apply pw_below_drewN | apply below_drew1 | refine below_set ?_ (IsS74.ge HI0.out)) | exact HB.out)⟩⟩
  case round =>
    clear H'
    try clear p2
    obtain ⟨x3_1, x4_1, x1001_1, x1002_1, x1003_1, rfl, HA, HK1, HO_3, HI0, HK, HB⟩ := hrel
    cases gk with
    | zero => exact absurd HA.out (by simp [say_parser_names.l0])
    | succ k1 =>
      have H := HA.out
      clear HA
      simp only [say_parser_names.l0] at H
      have HC4 := Aside0.mk H
      clear H
      go_upto_region 4 with (fail)
      go_cut [16] (fun v16 wc => ∃ (kq : Nat) (x16_3 : Bool) (x1001_3 : Int) (x1002_3 : Int) (x1003_3 : Int), v16 = .bool x16_3 ∧ Aside0 (say_parser_names.j1 kq x3_1 x4_1 x16_3 s0_0 x1001_3 x1002_3 x1003_3 = some (r1, r2, r3, r4)) ∧ Aside0 (kq ≤ k1) ∧ Aside0 (Kd.R Kd.string 9 wc w.heap.size (fun _ => True) u3 x3_1) ∧ Aside0 (IsS74 w0 wc g s0_0 x1001_3 x1002_3 x1003_3) ∧ Aside0 (KeepBut w wc g none) ∧ Aside0 (Below w0.heap.size w0 wc))
      case first =>
        have H := HC4.out
        clear HC4
        by_cases c5 : x1003_1 < 0
        · rw [if_pos c5] at H
          have c5b0 : decide (x1003_1 < 0) = true := decide_eq_true c5
          clear c5
          (first | rw [c5b0] | (simp only [i64_w, i32_w]; rw [c5b0]) | skip)
          replace H := Option.bind_eq_some_iff.mp H
          obtain ⟨⟨t150, t151, t152, t153⟩, A60, H⟩ := H
          replace H : (say_parser_names.j1 k1 x3_1 x4_1 (!t150) s0_0 t151 t152 t153) = some (r1, r2, r3, r4) := H
          have A6 := Aside0.mk A60
          clear A60
          have H' := Aside0.mk H
          clear H
          obtain ⟨ASz7_0, cSz7_0, HGz7, hgz7, HSz7_0⟩ := HI0.out
          have hcz7_0 := cellS74_0 HGz7
          have hcz7_1 := cellS74_1 HGz7
          have hcz7_2 := cellS74_2 HGz7
          have hcz7_3 := cellS74_3 HGz7
          have hfz7_1 := blk_frozen HGz7 1
          have hfz7_2 := blk_frozen HGz7 2
          have hfz7_3 := blk_frozen HGz7 3
          clear HGz7 hgz7
          go_wp2_with (first | (go_at_call 75; (with_reducible refine (say_parser_peek.calls g s0_0 x1001_1 x1002_1 x1003_1 (⟨#[93]⟩ : ByteArray) t150 t151 t152 t153 w0 _ ?side1 ?side2 A6.out).mono ?_); (case side1 => repeat (first | (with_reducible first | exact HI0.out | apply IsS74.alloc | apply IsS74.drewN | apply IsS74.drew | apply IsS74.set_1 | apply IsS74.set_2 | apply IsS74.set_3) | exact HI0.out)); (case side2 => repeat (first | (with_reducible first | exact HB.out | apply below_alloc | apply pw_below_drewN | apply below_drew1 | refine below_set ?_ (IsS74.ge HI0.out)) | exact HB.out)); rintro e w8 ⟨rfl, hi, hb, hk⟩; have n0_ := Aside0.mk (Kd.R_mono (Kd.R_keep (IsS74.apart (show IsS74 w0 _ g s0_0 x1001_1 x1002_1 x1003_1 from by repeat (first | (with_reducible first | exact HI0.out | apply IsS74.alloc | apply IsS74.drewN | apply IsS74.drew | apply IsS74.set_1 | apply IsS74.set_2 | apply IsS74.set_3) | exact HI0.out)) (by (with_reducible repeat (first | apply Kd.R_alloc | apply Kd.R_drewN | apply Kd.R_drew)); exact HO_3.out) (by decide)) hk (fun _ h => h.2)) (fun _ h => h.1)); have n1_ := Aside0.mk (KeepBut.trans (by repeat (first | (with_reducible first | exact HK.out | apply KeepBut.set_ | apply keep_drewN | apply keep_drew | apply keep_alloc) | exact HK.out)) hk (.inl rfl)); have n2_ := Aside0.mk (hb); have n3_ := Aside0.mk (hi); clear HO_3; clear HK; clear HB; clear HI0; have HO_3 := n0_; have HK := n1_; have HB := n2_; have HI0 := n3_; clear n0_ n1_ n2_ n3_; (try clear hb); (try clear hb2); (try clear hk); (try clear hi)))
          go_meet
          case rel => exact ⟨_, (!t150), (t151), (t152), (t153), (by first | rfl | (simp; done) | (simp [*]; done)), H', ⟨by have := HK1.out; first | omega | exact Nat.le_refl _⟩, ⟨by (with_reducible repeat (first | apply Kd.R_alloc | apply Kd.R_drewN | apply Kd.R_drew)); exact HO_3.out⟩, ⟨by repeat (first | (with_reducible first | exact HI0.out | apply IsS74.alloc | apply IsS74.drewN | apply IsS74.drew | apply IsS74.set_1 | apply IsS74.set_2 | apply IsS74.set_3) | exact HI0.out)⟩, ⟨by repeat (first | (with_reducible first | exact HK.out | apply KeepBut.set_ | apply keep_drewN | apply keep_drew | apply keep_alloc) | exact HK.out)⟩, ⟨by repeat (first | (with_reducible first | exact HB.out | apply below_alloc | apply pw_below_drewN | apply below_drew1 | refine below_set ?_ (IsS74.ge HI0.out)) | exact HB.out)⟩⟩
        · rw [if_neg c5] at H
          have c5b0 : decide (x1003_1 < 0) = false := decide_eq_false c5
          clear c5
          (first | rw [c5b0] | (simp only [i64_w, i32_w]; rw [c5b0]) | skip)
          have H' := Aside0.mk H
          clear H
          obtain ⟨ASz9_0, cSz9_0, HGz9, hgz9, HSz9_0⟩ := HI0.out
          have hcz9_0 := cellS74_0 HGz9
          have hcz9_1 := cellS74_1 HGz9
          have hcz9_2 := cellS74_2 HGz9
          have hcz9_3 := cellS74_3 HGz9
          have hfz9_1 := blk_frozen HGz9 1
          have hfz9_2 := blk_frozen HGz9 2
          have hfz9_3 := blk_frozen HGz9 3
          clear HGz9 hgz9
          go_wp2
          go_meet
          case rel => exact ⟨_, (false), (x1001_1), (x1002_1), (x1003_1), (by first | rfl | (simp; done) | (simp [*]; done)), H', ⟨by have := HK1.out; first | omega | exact Nat.le_refl _⟩, ⟨by (with_reducible repeat (first | apply Kd.R_alloc | apply Kd.R_drewN | apply Kd.R_drew)); exact HO_3.out⟩, ⟨by repeat (first | (with_reducible first | exact HI0.out | apply IsS74.alloc | apply IsS74.drewN | apply IsS74.drew | apply IsS74.set_1 | apply IsS74.set_2 | apply IsS74.set_3) | exact HI0.out)⟩, ⟨by repeat (first | (with_reducible first | exact HK.out | apply KeepBut.set_ | apply keep_drewN | apply keep_drew | apply keep_alloc) | exact HK.out)⟩, ⟨by repeat (first | (with_reducible first | exact HB.out | apply below_alloc | apply pw_below_drewN | apply below_drew1 | refine below_set ?_ (IsS74.ge HI0.out)) | exact HB.out)⟩⟩
      case rest =>
        clear HC4
        try clear p2
        try clear c5
        try clear c5b0
        try clear c6
        try clear c7
        try clear hcz7_0
        try clear hcz7_1
        try clear hcz7_2
        try clear hcz7_3
        try clear hcz9_0
        try clear hcz9_1
        try clear hcz9_2
        try clear hcz9_3
        try clear hfz7_1
        try clear hfz7_2
        try clear hfz7_3
        try clear hfz9_1
        try clear hfz9_2
        try clear hfz9_3
        try clear p2
        obtain ⟨kq, x16_3, x1001_3, x1002_3, x1003_3, rfl, HA, HJ3, HO_3, HI0, HK, HB⟩ := hcut
        cases kq with
        | zero => exact absurd HA.out (by simp [say_parser_names.j1])
        | succ kj3 =>
          have H := HA.out
          clear HA
          simp only [say_parser_names.j1] at H
          by_cases c10 : x16_3 = true
          · subst c10
            have H1 : (if x4_1 > 0 then ((say_parser_mark.f s0_0 x1001_3 x1002_3 x1003_3 (⟨#[44]⟩ : ByteArray)).bind fun bt157 => (say_parser_names.j2 kj3 x3_1 x4_1 s0_0 bt157.1 bt157.2.1 bt157.2.2)) else (say_parser_names.j2 kj3 x3_1 x4_1 s0_0 x1001_3 x1002_3 x1003_3)) = some (r1, r2, r3, r4) := by rw [if_pos rfl] at H; exact H
            clear H
            have H := H1
            clear H1
            have HC11 := Aside0.mk H
            clear H
            go_upto_if 20 with (fail)
            go_cut [] (fun wc => ∃ (kq : Nat) (x1001_10 : Int) (x1002_10 : Int) (x1003_10 : Int), Aside0 (say_parser_names.j2 kq x3_1 x4_1 s0_0 x1001_10 x1002_10 x1003_10 = some (r1, r2, r3, r4)) ∧ Aside0 (kq ≤ kj3) ∧ Aside0 (Kd.R Kd.string 9 wc w.heap.size (fun _ => True) u3 x3_1) ∧ Aside0 (IsS74 w0 wc g s0_0 x1001_10 x1002_10 x1003_10) ∧ Aside0 (KeepBut w wc g none) ∧ Aside0 (Below w0.heap.size w0 wc))
            case first =>
              have H := HC11.out
              clear HC11
              by_cases c12 : x4_1 > 0
              · rw [if_pos c12] at H
                have c12b0 : decide (0 < x4_1) = true := decide_eq_true c12
                clear c12
                (first | rw [c12b0] | (simp only [i64_w, i32_w]; rw [c12b0]) | skip)
                replace H := Option.bind_eq_some_iff.mp H
                obtain ⟨⟨t157, t158, t159⟩, A130, H⟩ := H
                replace H : (say_parser_names.j2 kj3 x3_1 x4_1 s0_0 t157 t158 t159) = some (r1, r2, r3, r4) := H
                have A13 := Aside0.mk A130
                clear A130
                have H' := Aside0.mk H
                clear H
                go_wp2_with (first | ((with_reducible refine gate_callee (f := 63) rfl ?_); refine goesL_ (some 22) rfl rfl Try.func63 (by kernel_rfl) rfl #[.pointer (some ⟨g, 0, none⟩), .string (⟨#[44]⟩ : ByteArray)] rfl (by (try simp only [List.map_toArray, List.map_cons, List.map_nil]); first | done | rfl | (simp only [List.length_drop, List.length_take]; rfl)) ?_; (with_reducible refine (say_parser_mark.calls g s0_0 x1001_3 x1002_3 x1003_3 (⟨#[44]⟩ : ByteArray) t157 t158 t159 w0 _ ?side1 ?side2 A13.out).mono ?_); (case side1 => repeat (first | (with_reducible first | exact HI0.out | apply IsS74.alloc | apply IsS74.drewN | apply IsS74.drew | apply IsS74.set_1 | apply IsS74.set_2 | apply IsS74.set_3) | exact HI0.out)); (case side2 => repeat (first | (with_reducible first | exact HB.out | apply below_alloc | apply pw_below_drewN | apply below_drew1 | refine below_set ?_ (IsS74.ge HI0.out)) | exact HB.out)); rintro e w14 ⟨rfl, hi, hb, hk⟩; refine ⟨_, rfl, ?_⟩; have n0_ := Aside0.mk (Kd.R_mono (Kd.R_keep (IsS74.apart (show IsS74 w0 _ g s0_0 x1001_3 x1002_3 x1003_3 from by repeat (first | (with_reducible first | exact HI0.out | apply IsS74.alloc | apply IsS74.drewN | apply IsS74.drew | apply IsS74.set_1 | apply IsS74.set_2 | apply IsS74.set_3) | exact HI0.out)) (by (with_reducible repeat (first | apply Kd.R_alloc | apply Kd.R_drewN | apply Kd.R_drew)); exact HO_3.out) (by decide)) hk (fun _ h => h.2)) (fun _ h => h.1)); have n1_ := Aside0.mk (KeepBut.trans (by repeat (first | (with_reducible first | exact HK.out | apply KeepBut.set_ | apply keep_drewN | apply keep_drew | apply keep_alloc) | exact HK.out)) hk (.inl rfl)); have n2_ := Aside0.mk (hb); have n3_ := Aside0.mk (hi); clear HO_3; clear HK; clear HB; clear HI0; have HO_3 := n0_; have HK := n1_; have HB := n2_; have HI0 := n3_; clear n0_ n1_ n2_ n3_; (try clear hb); (try clear hb2); (try clear hk); (try clear hi)))
                go_meet
                case rel => exact ⟨_, (t157), (t158), (t159), H', ⟨by have := HK1.out; have := HJ3.out; first | omega | exact Nat.le_refl _⟩, ⟨by (with_reducible repeat (first | apply Kd.R_alloc | apply Kd.R_drewN | apply Kd.R_drew)); exact HO_3.out⟩, ⟨by repeat (first | (with_reducible first | exact HI0.out | apply IsS74.alloc | apply IsS74.drewN | apply IsS74.drew | apply IsS74.set_1 | apply IsS74.set_2 | apply IsS74.set_3) | exact HI0.out)⟩, ⟨by repeat (first | (with_reducible first | exact HK.out | apply KeepBut.set_ | apply keep_drewN | apply keep_drew | apply keep_alloc) | exact HK.out)⟩, ⟨by repeat (first | (with_reducible first | exact HB.out | apply below_alloc | apply pw_below_drewN | apply below_drew1 | refine below_set ?_ (IsS74.ge HI0.out)) | exact HB.out)⟩⟩
              · rw [if_neg c12] at H
                have c12b0 : decide (0 < x4_1) = false := decide_eq_false c12
                clear c12
                (first | rw [c12b0] | (simp only [i64_w, i32_w]; rw [c12b0]) | skip)
                have H' := Aside0.mk H
                clear H
                go_wp2
                go_meet
                case rel => exact ⟨_, (x1001_3), (x1002_3), (x1003_3), H', ⟨by have := HK1.out; have := HJ3.out; first | omega | exact Nat.le_refl _⟩, ⟨by (with_reducible repeat (first | apply Kd.R_alloc | apply Kd.R_drewN | apply Kd.R_drew)); exact HO_3.out⟩, ⟨by repeat (first | (with_reducible first | exact HI0.out | apply IsS74.alloc | apply IsS74.drewN | apply IsS74.drew | apply IsS74.set_1 | apply IsS74.set_2 | apply IsS74.set_3) | exact HI0.out)⟩, ⟨by repeat (first | (with_reducible first | exact HK.out | apply KeepBut.set_ | apply keep_drewN | apply keep_drew | apply keep_alloc) | exact HK.out)⟩, ⟨by repeat (first | (with_reducible first | exact HB.out | apply below_alloc | apply pw_below_drewN | apply below_drew1 | refine below_set ?_ (IsS74.ge HI0.out)) | exact HB.out)⟩⟩
            case rest =>
              clear HC11
              try clear c1
              try clear p2
              try clear c5
              try clear c5b0
              try clear c6
              try clear c7
              try clear c10
              try clear c12
              try clear c12b0
              try clear hcz7_0
              try clear hcz7_1
              try clear hcz7_2
              try clear hcz7_3
              try clear hcz9_0
              try clear hcz9_1
              try clear hcz9_2
              try clear hcz9_3
              try clear hfz7_1
              try clear hfz7_2
              try clear hfz7_3
              try clear hfz9_1
              try clear hfz9_2
              try clear hfz9_3
              try clear p2
              obtain ⟨kq, x1001_10, x1002_10, x1003_10, HA, HJ10, HO_3, HI0, HK, HB⟩ := hcut
              cases kq with
              | zero => exact absurd HA.out (by simp [say_parser_names.j2])
              | succ kj10 =>
                have H := HA.out
                clear HA
                simp only [say_parser_names.j2] at H
                by_cases c15 : x4_1 ≥ 100
                · rw [if_pos c15] at H
                  have c15b0 : decide (100 ≤ x4_1) = true := decide_eq_true c15
                  clear c15
                  replace H := Option.bind_eq_some_iff.mp H
                  obtain ⟨⟨t160, t161, t162⟩, A160, H⟩ := H
                  replace H : ((say_parser_take.f s0_0 t160 t161 t162 2).bind fun bt163 => (if x3_1.length < 8796093022208 then (say_parser_names.l0 kj10 (x3_1 ++ [bt163.1]) (wrap64 (x4_1 + 1)) s0_0 bt163.2.1 bt163.2.2.1 bt163.2.2.2) else (none))) = some (r1, r2, r3, r4) := H
                  have A16 := Aside0.mk A160
                  clear A160
                  replace H := Option.bind_eq_some_iff.mp H
                  obtain ⟨⟨t163, t164, t165, t166⟩, A170, H⟩ := H
                  replace H : (if x3_1.length < 8796093022208 then (say_parser_names.l0 kj10 (x3_1 ++ [t163]) (wrap64 (x4_1 + 1)) s0_0 t164 t165 t166) else (none)) = some (r1, r2, r3, r4) := H
                  have A17 := Aside0.mk A170
                  clear A170
                  by_cases c18 : x3_1.length < 8796093022208
                  · rw [if_pos c18] at H
                    have LMc18 := Aside0.mk c18
                    clear c18
                    obtain ⟨y167, hy167⟩ : ∃ y_ : List ByteArray, y_ = (x3_1 ++ [t163]) := ⟨_, rfl⟩
                    replace H : (say_parser_names.l0 kj10 y167 (wrap64 (x4_1 + 1)) s0_0 t164 t165 t166) = some (r1, r2, r3, r4) := by first | (rw [hy167]; with_reducible exact H) | (have H2_ := (Option.bind_some _ _).symm.trans H; rw [hy167]; with_reducible exact H2_) | (have H2_ := (Option.bind_some _ _).symm.trans H; with_reducible exact H2_) | with_reducible exact H | (rw [hy167]; exact H) | exact H
                    have Ny167 := Aside0.mk hy167
                    clear hy167
                    have H' := Aside0.mk H
                    clear H
                    go_wp2_with (first | ((with_reducible refine gate_callee (f := 55) rfl ?_); refine goesL_ (some 26) rfl rfl Try.func55 (by kernel_rfl) rfl #[.pointer (some ⟨g, 0, none⟩)] rfl (by (try simp only [List.map_toArray, List.map_cons, List.map_nil]); first | done | rfl | (simp only [List.length_drop, List.length_take]; rfl)) ?_; (with_reducible refine (say_parser_fail.calls g s0_0 x1001_10 x1002_10 x1003_10 t160 t161 t162 w0 _ ?side1 ?side2 A16.out).mono ?_); (case side1 => repeat (first | (with_reducible first | exact HI0.out | apply IsS74.alloc | apply IsS74.drewN | apply IsS74.drew | apply IsS74.set_1 | apply IsS74.set_2 | apply IsS74.set_3) | exact HI0.out)); (case side2 => repeat (first | (with_reducible first | exact HB.out | apply below_alloc | apply pw_below_drewN | apply below_drew1 | refine below_set ?_ (IsS74.ge HI0.out)) | exact HB.out)); rintro e w19 ⟨rfl, hi, hb, hk⟩; refine ⟨_, rfl, ?_⟩; have n0_ := Aside0.mk (Kd.R_mono (Kd.R_keep (IsS74.apart (show IsS74 w0 _ g s0_0 x1001_10 x1002_10 x1003_10 from by repeat (first | (with_reducible first | exact HI0.out | apply IsS74.alloc | apply IsS74.drewN | apply IsS74.drew | apply IsS74.set_1 | apply IsS74.set_2 | apply IsS74.set_3) | exact HI0.out)) (by (with_reducible repeat (first | apply Kd.R_alloc | apply Kd.R_drewN | apply Kd.R_drew)); exact HO_3.out) (by decide)) hk (fun _ h => h.2)) (fun _ h => h.1)); have n1_ := Aside0.mk (KeepBut.trans (by repeat (first | (with_reducible first | exact HK.out | apply KeepBut.set_ | apply keep_drewN | apply keep_drew | apply keep_alloc) | exact HK.out)) hk (.inl rfl)); have n2_ := Aside0.mk (hb); have n3_ := Aside0.mk (hi); clear HO_3; clear HK; clear HB; clear HI0; have HO_3 := n0_; have HK := n1_; have HB := n2_; have HI0 := n3_; clear n0_ n1_ n2_ n3_; (try clear hb); (try clear hb2); (try clear hk); (try clear hi)) | ((with_reducible refine gate_callee (f := 61) rfl ?_); refine goesL_ (some 29) rfl rfl Try.func61 (by kernel_rfl) rfl #[.pointer (some ⟨g, 0, none⟩), .int .i64 2] rfl (by (try simp only [List.map_toArray, List.map_cons, List.map_nil]); first | done | rfl | (simp only [List.length_drop, List.length_take]; rfl)) ?_; (with_reducible refine (say_parser_take.calls g s0_0 t160 t161 t162 2 t163 t164 t165 t166 w0 _ ?side1 ?side2 A17.out).mono ?_); (case side1 => repeat (first | (with_reducible first | exact HI0.out | apply IsS74.alloc | apply IsS74.drewN | apply IsS74.drew | apply IsS74.set_1 | apply IsS74.set_2 | apply IsS74.set_3) | exact HI0.out)); (case side2 => repeat (first | (with_reducible first | exact HB.out | apply below_alloc | apply pw_below_drewN | apply below_drew1 | refine below_set ?_ (IsS74.ge HI0.out)) | exact HB.out)); rintro e w20 ⟨rfl, hi, hb, hk⟩; refine ⟨_, rfl, ?_⟩; have n0_ := Aside0.mk (Kd.R_mono (Kd.R_keep (IsS74.apart (show IsS74 w0 _ g s0_0 t160 t161 t162 from by repeat (first | (with_reducible first | exact HI0.out | apply IsS74.alloc | apply IsS74.drewN | apply IsS74.drew | apply IsS74.set_1 | apply IsS74.set_2 | apply IsS74.set_3) | exact HI0.out)) (by (with_reducible repeat (first | apply Kd.R_alloc | apply Kd.R_drewN | apply Kd.R_drew)); exact HO_3.out) (by decide)) hk (fun _ h => h.2)) (fun _ h => h.1)); have n1_ := Aside0.mk (KeepBut.trans (by repeat (first | (with_reducible first | exact HK.out | apply KeepBut.set_ | apply keep_drewN | apply keep_drew | apply keep_alloc) | exact HK.out)) hk (.inl rfl)); have n2_ := Aside0.mk (hb); have n3_ := Aside0.mk (hi); clear HO_3; clear HK; clear HB; clear HI0; have HO_3 := n0_; have HK := n1_; have HB := n2_; have HI0 := n3_; clear n0_ n1_ n2_ n3_; (try clear hb); (try clear hb2); (try clear hk); (try clear hi)) | ((with_reducible refine gate_builtin (b := .append) (xs := #[.tmp 27, .tmp 30]) rfl ?_); at_builtin; refine Kd.R_append Kd.string w.heap.size rfl (.tmp 27) (.tmp 30) 43 9 (.string ⟨#[]⟩) 16 rfl Try.underlying43 info9 rfl (by decide) (by omega) u3 x3_1 t163 [.string t163] (fun _ => True) (fun _ => False) rfl rfl ?aP (fun _ hk => hk.elim) ?aF ?aO (Below.refl _ _) ?aS ?aL ?_; (case aP => exact rfl); (case aF => exact (fun _ _ => trivial)); (case aO => exact (by (with_reducible repeat (first | apply Kd.R_alloc | apply Kd.R_drewN | apply Kd.R_drew)); exact HO_3.out)); (case aS => exact (keep_size (w := w) (g := g) (row := none) (by repeat (first | (with_reducible first | exact HK.out | apply KeepBut.set_ | apply keep_drewN | apply keep_drew | apply keep_alloc) | exact HK.out)))); (case aL => have := LMc18.out; omega); intro v168 w21 ho hb hg hat; rw [← Ny167.out] at ho; have n0_ := Aside0.mk (IsS74.grown (by repeat (first | (with_reducible first | exact HI0.out | apply IsS74.alloc | apply IsS74.drewN | apply IsS74.drew | apply IsS74.set_1 | apply IsS74.set_2 | apply IsS74.set_3) | exact HI0.out)) hg (IsS74.own_ne HI0.out HO_3.out (by decide))); have n1_ := Aside0.mk (below_weaken (by repeat (first | (with_reducible first | exact HB.out | apply below_alloc | apply pw_below_drewN | apply below_drew1 | refine below_set ?_ (IsS74.ge HI0.out)) | exact HB.out)) HL.out hb); have n2_ := Aside0.mk (KeepBut.trans (by repeat (first | (with_reducible first | exact HK.out | apply KeepBut.set_ | apply keep_drewN | apply keep_drew | apply keep_alloc) | exact HK.out)) (KeepBut.of_grown hg g) (Kd.R_base2 HO_3.out)); have n3_ := Aside0.mk (ho); clear HI0; clear HB; clear HK; clear HO_3; have HI0 := n0_; have HB := n1_; have HK := n2_; have HO169 := n3_; clear n0_ n1_ n2_ n3_; clear ho hb hg hat))
                    go_roundg kj10
                    case measure => have := HK1.out; have := HJ3.out; have := HJ10.out; omega
                    case rel => exact ⟨(y167), (wrap64 (x4_1 + 1)), (t164), (t165), (t166), (by first | rfl | (simp; done) | (simp [*]; done)), H', ⟨by have := HK1.out; have := HJ3.out; have := HJ10.out; omega⟩, ⟨by (with_reducible repeat (first | apply Kd.R_alloc | apply Kd.R_drewN | apply Kd.R_drew)); exact HO169.out⟩, ⟨by repeat (first | (with_reducible first | exact HI0.out | apply IsS74.alloc | apply IsS74.drewN | apply IsS74.drew | apply IsS74.set_1 | apply IsS74.set_2 | apply IsS74.set_3) | exact HI0.out)⟩, ⟨by repeat (first | (with_reducible first | exact HK.out | apply KeepBut.set_ | apply keep_drewN | apply keep_drew | apply keep_alloc) | exact HK.out)⟩, ⟨by repeat (first | (with_reducible first | exact HB.out | apply below_alloc | apply pw_below_drewN | apply below_drew1 | refine below_set ?_ (IsS74.ge HI0.out)) | exact HB.out)⟩⟩
                  · rw [if_neg c18] at H
                    exact absurd H (by simp)
                · rw [if_neg c15] at H
                  have c15b0 : decide (100 ≤ x4_1) = false := decide_eq_false c15
                  clear c15
                  replace H := Option.bind_eq_some_iff.mp H
                  obtain ⟨⟨t170, t171, t172, t173⟩, A220, H⟩ := H
                  replace H : (if x3_1.length < 8796093022208 then (say_parser_names.l0 kj10 (x3_1 ++ [t170]) (wrap64 (x4_1 + 1)) s0_0 t171 t172 t173) else (none)) = some (r1, r2, r3, r4) := H
                  have A22 := Aside0.mk A220
                  clear A220
                  by_cases c23 : x3_1.length < 8796093022208
                  · rw [if_pos c23] at H
                    have LMc23 := Aside0.mk c23
                    clear c23
                    obtain ⟨y174, hy174⟩ : ∃ y_ : List ByteArray, y_ = (x3_1 ++ [t170]) := ⟨_, rfl⟩
                    replace H : (say_parser_names.l0 kj10 y174 (wrap64 (x4_1 + 1)) s0_0 t171 t172 t173) = some (r1, r2, r3, r4) := by first | (rw [hy174]; with_reducible exact H) | (have H2_ := (Option.bind_some _ _).symm.trans H; rw [hy174]; with_reducible exact H2_) | (have H2_ := (Option.bind_some _ _).symm.trans H; with_reducible exact H2_) | with_reducible exact H | (rw [hy174]; exact H) | exact H
                    have Ny174 := Aside0.mk hy174
                    clear hy174
                    have H' := Aside0.mk H
                    clear H
                    go_wp2_with (first | ((with_reducible refine gate_callee (f := 61) rfl ?_); refine goesL_ (some 29) rfl rfl Try.func61 (by kernel_rfl) rfl #[.pointer (some ⟨g, 0, none⟩), .int .i64 2] rfl (by (try simp only [List.map_toArray, List.map_cons, List.map_nil]); first | done | rfl | (simp only [List.length_drop, List.length_take]; rfl)) ?_; (with_reducible refine (say_parser_take.calls g s0_0 x1001_10 x1002_10 x1003_10 2 t170 t171 t172 t173 w0 _ ?side1 ?side2 A22.out).mono ?_); (case side1 => repeat (first | (with_reducible first | exact HI0.out | apply IsS74.alloc | apply IsS74.drewN | apply IsS74.drew | apply IsS74.set_1 | apply IsS74.set_2 | apply IsS74.set_3) | exact HI0.out)); (case side2 => repeat (first | (with_reducible first | exact HB.out | apply below_alloc | apply pw_below_drewN | apply below_drew1 | refine below_set ?_ (IsS74.ge HI0.out)) | exact HB.out)); rintro e w24 ⟨rfl, hi, hb, hk⟩; refine ⟨_, rfl, ?_⟩; have n0_ := Aside0.mk (Kd.R_mono (Kd.R_keep (IsS74.apart (show IsS74 w0 _ g s0_0 x1001_10 x1002_10 x1003_10 from by repeat (first | (with_reducible first | exact HI0.out | apply IsS74.alloc | apply IsS74.drewN | apply IsS74.drew | apply IsS74.set_1 | apply IsS74.set_2 | apply IsS74.set_3) | exact HI0.out)) (by (with_reducible repeat (first | apply Kd.R_alloc | apply Kd.R_drewN | apply Kd.R_drew)); exact HO_3.out) (by decide)) hk (fun _ h => h.2)) (fun _ h => h.1)); have n1_ := Aside0.mk (KeepBut.trans (by repeat (first | (with_reducible first | exact HK.out | apply KeepBut.set_ | apply keep_drewN | apply keep_drew | apply keep_alloc) | exact HK.out)) hk (.inl rfl)); have n2_ := Aside0.mk (hb); have n3_ := Aside0.mk (hi); clear HO_3; clear HK; clear HB; clear HI0; have HO_3 := n0_; have HK := n1_; have HB := n2_; have HI0 := n3_; clear n0_ n1_ n2_ n3_; (try clear hb); (try clear hb2); (try clear hk); (try clear hi)) | ((with_reducible refine gate_builtin (b := .append) (xs := #[.tmp 27, .tmp 30]) rfl ?_); at_builtin; refine Kd.R_append Kd.string w.heap.size rfl (.tmp 27) (.tmp 30) 43 9 (.string ⟨#[]⟩) 16 rfl Try.underlying43 info9 rfl (by decide) (by omega) u3 x3_1 t170 [.string t170] (fun _ => True) (fun _ => False) rfl rfl ?aP (fun _ hk => hk.elim) ?aF ?aO (Below.refl _ _) ?aS ?aL ?_; (case aP => exact rfl); (case aF => exact (fun _ _ => trivial)); (case aO => exact (by (with_reducible repeat (first | apply Kd.R_alloc | apply Kd.R_drewN | apply Kd.R_drew)); exact HO_3.out)); (case aS => exact (keep_size (w := w) (g := g) (row := none) (by repeat (first | (with_reducible first | exact HK.out | apply KeepBut.set_ | apply keep_drewN | apply keep_drew | apply keep_alloc) | exact HK.out)))); (case aL => have := LMc23.out; omega); intro v175 w25 ho hb hg hat; rw [← Ny174.out] at ho; have n0_ := Aside0.mk (IsS74.grown (by repeat (first | (with_reducible first | exact HI0.out | apply IsS74.alloc | apply IsS74.drewN | apply IsS74.drew | apply IsS74.set_1 | apply IsS74.set_2 | apply IsS74.set_3) | exact HI0.out)) hg (IsS74.own_ne HI0.out HO_3.out (by decide))); have n1_ := Aside0.mk (below_weaken (by repeat (first | (with_reducible first | exact HB.out | apply below_alloc | apply pw_below_drewN | apply below_drew1 | refine below_set ?_ (IsS74.ge HI0.out)) | exact HB.out)) HL.out hb); have n2_ := Aside0.mk (KeepBut.trans (by repeat (first | (with_reducible first | exact HK.out | apply KeepBut.set_ | apply keep_drewN | apply keep_drew | apply keep_alloc) | exact HK.out)) (KeepBut.of_grown hg g) (Kd.R_base2 HO_3.out)); have n3_ := Aside0.mk (ho); clear HI0; clear HB; clear HK; clear HO_3; have HI0 := n0_; have HB := n1_; have HK := n2_; have HO176 := n3_; clear n0_ n1_ n2_ n3_; clear ho hb hg hat))
                    go_roundg kj10
                    case measure => have := HK1.out; have := HJ3.out; have := HJ10.out; omega
                    case rel => exact ⟨(y174), (wrap64 (x4_1 + 1)), (t171), (t172), (t173), (by first | rfl | (simp; done) | (simp [*]; done)), H', ⟨by have := HK1.out; have := HJ3.out; have := HJ10.out; omega⟩, ⟨by (with_reducible repeat (first | apply Kd.R_alloc | apply Kd.R_drewN | apply Kd.R_drew)); exact HO176.out⟩, ⟨by repeat (first | (with_reducible first | exact HI0.out | apply IsS74.alloc | apply IsS74.drewN | apply IsS74.drew | apply IsS74.set_1 | apply IsS74.set_2 | apply IsS74.set_3) | exact HI0.out)⟩, ⟨by repeat (first | (with_reducible first | exact HK.out | apply KeepBut.set_ | apply keep_drewN | apply keep_drew | apply keep_alloc) | exact HK.out)⟩, ⟨by repeat (first | (with_reducible first | exact HB.out | apply below_alloc | apply pw_below_drewN | apply below_drew1 | refine below_set ?_ (IsS74.ge HI0.out)) | exact HB.out)⟩⟩
                  · rw [if_neg c23] at H
                    exact absurd H (by simp)
          · replace c10 := Bool.eq_false_iff.mpr c10
            subst c10
            have H1 : ((say_parser_mark.f s0_0 x1001_3 x1002_3 x1003_3 (⟨#[93]⟩ : ByteArray)).bind fun bt154 => (some (x3_1, bt154.1, bt154.2.1, bt154.2.2))) = some (r1, r2, r3, r4) := by rw [if_neg (show ¬ (false = true) by decide)] at H; exact H
            clear H
            have H := H1
            clear H1
            replace H := Option.bind_eq_some_iff.mp H
            obtain ⟨⟨t154, t155, t156⟩, A260, H⟩ := H
            replace H : (some (x3_1, t154, t155, t156)) = some (r1, r2, r3, r4) := H
            have A26 := Aside0.mk A260
            clear A260
            simp only [Option.some.injEq, Prod.mk.injEq] at H
            obtain ⟨rfl, rfl, rfl, rfl⟩ := H
            go_wp2_with (first | ((with_reducible refine gate_callee (f := 63) rfl ?_); refine goesL_ (some 33) rfl rfl Try.func63 (by kernel_rfl) rfl #[.pointer (some ⟨g, 0, none⟩), .string (⟨#[93]⟩ : ByteArray)] rfl (by (try simp only [List.map_toArray, List.map_cons, List.map_nil]); first | done | rfl | (simp only [List.length_drop, List.length_take]; rfl)) ?_; (with_reducible refine (say_parser_mark.calls g s0_0 x1001_3 x1002_3 x1003_3 (⟨#[93]⟩ : ByteArray) t154 t155 t156 w0 _ ?side1 ?side2 A26.out).mono ?_); (case side1 => repeat (first | (with_reducible first | exact HI0.out | apply IsS74.alloc | apply IsS74.drewN | apply IsS74.drew | apply IsS74.set_1 | apply IsS74.set_2 | apply IsS74.set_3) | exact HI0.out)); (case side2 => repeat (first | (with_reducible first | exact HB.out | apply below_alloc | apply pw_below_drewN | apply below_drew1 | refine below_set ?_ (IsS74.ge HI0.out)) | exact HB.out)); rintro e w27 ⟨rfl, hi, hb, hk⟩; refine ⟨_, rfl, ?_⟩; have n0_ := Aside0.mk (Kd.R_mono (Kd.R_keep (IsS74.apart (show IsS74 w0 _ g s0_0 x1001_3 x1002_3 x1003_3 from by repeat (first | (with_reducible first | exact HI0.out | apply IsS74.alloc | apply IsS74.drewN | apply IsS74.drew | apply IsS74.set_1 | apply IsS74.set_2 | apply IsS74.set_3) | exact HI0.out)) (by (with_reducible repeat (first | apply Kd.R_alloc | apply Kd.R_drewN | apply Kd.R_drew)); exact HO_3.out) (by decide)) hk (fun _ h => h.2)) (fun _ h => h.1)); have n1_ := Aside0.mk (KeepBut.trans (by repeat (first | (with_reducible first | exact HK.out | apply KeepBut.set_ | apply keep_drewN | apply keep_drew | apply keep_alloc) | exact HK.out)) hk (.inl rfl)); have n2_ := Aside0.mk (hb); have n3_ := Aside0.mk (hi); clear HO_3; clear HK; clear HB; clear HI0; have HO_3 := n0_; have HK := n1_; have HB := n2_; have HI0 := n3_; clear n0_ n1_ n2_ n3_; (try clear hb); (try clear hb2); (try clear hk); (try clear hi)))
            go_ret
            exact ⟨_, by first | rfl | (simp [errW_none, errW_some] <;> rfl) | (simp [*, errW_none, errW_some] <;> rfl), by (with_reducible repeat (first | apply Kd.R_alloc | apply Kd.R_drewN | apply Kd.R_drew)); exact HO_3.out, by repeat (first | (with_reducible first | exact HI0.out | apply IsS74.alloc | apply IsS74.drewN | apply IsS74.drew | apply IsS74.set_1 | apply IsS74.set_2 | apply IsS74.set_3) | exact HI0.out), by repeat (first | (with_reducible first | exact HB.out | apply below_alloc | apply pw_below_drewN | apply below_drew1 | refine below_set ?_ (IsS74.ge HI0.out)) | exact HB.out), by repeat (first | (with_reducible first | exact HK.out | apply KeepBut.set_ | apply keep_drewN | apply keep_drew | apply keep_alloc) | exact HK.out)⟩

end Go.Proofs.Ytokkjnfdfbpphaa.A
namespace Go.Proofs.Ytokkjnfdfbpphaa.A
open Go.RowKit Go.Proofs.YtokkjnfdfbpphaaW.PrintWords Go.Proofs.YtokkjnfdfbpphaaW.PrintLast Go.Proofs.YtokkjnfdfbpphaaW.PrintMore
attribute [local go_sem] max2_int min2_int max_two min_two max_three min_three max_four min_four   -- for this text's walks alone
set_option linter.unusedVariables false
set_option linter.unusedSimpArgs false

/-! ### say_parser_count: function 73 -/
def say_parser_count.j0 : Nat → Int → Int → Bool → Bool → List (S28) → Int → Int → Int → Option (Int × Int × Int × Int)
  | 0, _, _, _, _, _, _, _, _ => none
  | k + 1, x3, x4, x5, x24, x1000, x1001, x1002, x1003 => if x24 = true then ((say_parser_fail.f x1000 x3 x1002 x1003).bind fun bt183 => (if x5 = true then (some (x4, bt183.1, bt183.2.1, bt183.2.2)) else (some (0, bt183.1, bt183.2.1, bt183.2.2)))) else (if x5 = true then (some (x4, x1001, x1002, x1003)) else (some (0, x1001, x1002, x1003)))
def say_parser_count.f (k : Nat) (s0_0 : List (S28)) (s0_1 : Int) (s0_2 : Int) (s0_3 : Int) : Option (Int × Int × Int × Int) := (say_parser_take.f s0_0 s0_1 s0_2 s0_3 1).bind fun bt177 => ((say_digits.f bt177.1).bind fun bt181 => (if bt177.2.2.2 < 0 then (say_parser_count.j0 k s0_1 bt181.1 bt181.2 (!bt181.2) s0_0 bt177.2.1 bt177.2.2.1 bt177.2.2.2) else (say_parser_count.j0 k s0_1 bt181.1 bt181.2 false s0_0 bt177.2.1 bt177.2.2.1 bt177.2.2.2)))
theorem say_parser_count.mono_l : ∀ k, (∀ y0 y1 y2 y3 y4 y5 y6 y7, LeO (say_parser_count.j0 k y0 y1 y2 y3 y4 y5 y6 y7) (say_parser_count.j0 (k + 1) y0 y1 y2 y3 y4 y5 y6 y7))
  | 0 => fun _ _ _ _ _ _ _ _ r h => by simp [say_parser_count.j0] at h
  | k + 1 => by
    have ih0 := say_parser_count.mono_l k
    · intro y0 y1 y2 y3 y4 y5 y6 y7
      unfold say_parser_count.j0
      repeat' first
      | (with_reducible exact ih0 _ _ _ _ _ _ _ _)
      | (with_reducible exact LeO.refl _)
      | (with_reducible exact LeO.none _)
      | (with_reducible refine LeO.ite ?_ ?_)
      | (with_reducible refine LeO.bind ?_ (fun _ => ?_))
      | exact ih0 _ _ _ _ _ _ _ _
      | exact LeO.none _
      | refine LeO.ite ?_ ?_
      | refine LeO.bind ?_ (fun _ => ?_)
theorem say_parser_count.mono : ∀ a0 a1 a2 a3 k, LeO (say_parser_count.f k a0 a1 a2 a3) (say_parser_count.f (k + 1) a0 a1 a2 a3) := by
  intro a0 a1 a2 a3 k
  have ih0 := say_parser_count.mono_l k
  unfold say_parser_count.f
  repeat' first
      | (with_reducible exact ih0 _ _ _ _ _ _ _ _)
      | (with_reducible exact LeO.refl _)
      | (with_reducible exact LeO.none _)
      | (with_reducible refine LeO.ite ?_ ?_)
      | (with_reducible refine LeO.bind ?_ (fun _ => ?_))
      | exact ih0 _ _ _ _ _ _ _ _
      | exact LeO.none _
      | refine LeO.ite ?_ ?_
      | refine LeO.bind ?_ (fun _ => ?_)
set_option maxHeartbeats 8000000 in
set_option maxRecDepth 100000 in
theorem say_parser_count.calls (k : Nat) (g : Nat) (s0_0 : List (S28)) (s0_1 : Int) (s0_2 : Int) (s0_3 : Int) (r1 : Int) (r2 : Int) (r3 : Int) (r4 : Int) (w0 w : World) (hI : IsS74 w0 w g s0_0 s0_1 s0_2 s0_3) (hB : Below w0.heap.size w0 w) (h : say_parser_count.f k s0_0 s0_1 s0_2 s0_3 = some (r1, r2, r3, r4)) :
    Calls Try.prog 73 #[.pointer (some ⟨g, 0, none⟩)] w fun e w' => e = .returned (.int .u64 r1) ∧ IsS74 w0 w' g s0_0 r2 r3 r4 ∧ Below w0.heap.size w0 w' ∧ KeepBut w w' g none := by
  have HI0 := Aside0.mk hI
  have HK := Aside0.mk (KeepBut.refl w g none)
  have HL := Aside0.mk hB.size
  clear hI
  have HW0 := Aside0.mk hB.size
  have HB := Aside0.mk hB
  clear hB
  have H : ((say_parser_take.f s0_0 s0_1 s0_2 s0_3 1).bind fun bt177 => ((say_digits.f bt177.1).bind fun bt181 => (if bt177.2.2.2 < 0 then (say_parser_count.j0 k s0_1 bt181.1 bt181.2 (!bt181.2) s0_0 bt177.2.1 bt177.2.2.1 bt177.2.2.2) else (say_parser_count.j0 k s0_1 bt181.1 bt181.2 false s0_0 bt177.2.1 bt177.2.2.1 bt177.2.2.2)))) = some (r1, r2, r3, r4) := h
  clear h
  replace H := Option.bind_eq_some_iff.mp H
  obtain ⟨⟨t177, t178, t179, t180⟩, A20, H⟩ := H
  replace H : ((say_digits.f t177).bind fun bt181 => (if t180 < 0 then (say_parser_count.j0 k s0_1 bt181.1 bt181.2 (!bt181.2) s0_0 t178 t179 t180) else (say_parser_count.j0 k s0_1 bt181.1 bt181.2 false s0_0 t178 t179 t180))) = some (r1, r2, r3, r4) := H
  have A2 := Aside0.mk A20
  clear A20
  replace H := Option.bind_eq_some_iff.mp H
  obtain ⟨⟨t181, t182⟩, A30, H⟩ := H
  replace H : (if t180 < 0 then (say_parser_count.j0 k s0_1 t181 t182 (!t182) s0_0 t178 t179 t180) else (say_parser_count.j0 k s0_1 t181 t182 false s0_0 t178 t179 t180)) = some (r1, r2, r3, r4) := H
  have A3 := Aside0.mk A30
  clear A30
  have HC4 := Aside0.mk H
  clear H
  obtain ⟨ASz5_0, cSz5_0, HGz5, hgz5, HSz5_0⟩ := HI0.out
  have hcz5_0 := cellS74_0 HGz5
  have hcz5_1 := cellS74_1 HGz5
  have hcz5_2 := cellS74_2 HGz5
  have hcz5_3 := cellS74_3 HGz5
  have hfz5_1 := blk_frozen HGz5 1
  have hfz5_2 := blk_frozen HGz5 2
  have hfz5_3 := blk_frozen HGz5 3
  clear HGz5 hgz5
  go_enter Try.func73, Try.ntmps73
  go_upto_region 3 with (first | ((with_reducible refine gate_callee (f := 61) rfl ?_); refine goesL_ (some 12) rfl rfl Try.func61 (by kernel_rfl) rfl #[.pointer (some ⟨g, 0, none⟩), .int .i64 1] rfl (by (try simp only [List.map_toArray, List.map_cons, List.map_nil]); first | done | rfl | (simp only [List.length_drop, List.length_take]; rfl)) ?_; (with_reducible refine (say_parser_take.calls g s0_0 s0_1 s0_2 s0_3 1 t177 t178 t179 t180 w0 _ ?side1 ?side2 A2.out).mono ?_); (case side1 => repeat (first | (with_reducible first | exact HI0.out | apply IsS74.alloc | apply IsS74.drewN | apply IsS74.drew | apply IsS74.set_1 | apply IsS74.set_2 | apply IsS74.set_3) | exact HI0.out)); (case side2 => repeat (first | (with_reducible first | exact HB.out | apply below_alloc | apply pw_below_drewN | apply below_drew1 | refine below_set ?_ (IsS74.ge HI0.out)) | exact HB.out)); rintro e w6 ⟨rfl, hi, hb, hk⟩; refine ⟨_, rfl, ?_⟩; have n0_ := Aside0.mk (KeepBut.trans (by repeat (first | (with_reducible first | exact HK.out | apply KeepBut.set_ | apply keep_drewN | apply keep_drew | apply keep_alloc) | exact HK.out)) hk (.inl rfl)); have n1_ := Aside0.mk (hb); have n2_ := Aside0.mk (hi); clear HK; clear HB; clear HI0; have HK := n0_; have HB := n1_; have HI0 := n2_; clear n0_ n1_ n2_; (try clear hb); (try clear hb2); (try clear hk); (try clear hi)) | ((with_reducible refine gate_callee (f := 69) rfl ?_); refine goesL_ (some 13) rfl rfl Try.func69 (by kernel_rfl) rfl #[.string t177] rfl (by (try simp only [List.map_toArray, List.map_cons, List.map_nil]); first | done | rfl | (simp only [List.length_drop, List.length_take]; rfl)) ?_; (with_reducible refine (say_digits.calls t177 t181 t182 _ A3.out).mono ?_); rintro e w7 ⟨rfl, hb⟩; refine ⟨_, rfl, ?_⟩; have n0_ := Aside0.mk (IsS74.below (by repeat (first | (with_reducible first | exact HI0.out | apply IsS74.alloc | apply IsS74.drewN | apply IsS74.drew | apply IsS74.set_1 | apply IsS74.set_2 | apply IsS74.set_3) | exact HI0.out)) hb); have n1_ := Aside0.mk (KeepBut.trans (by repeat (first | (with_reducible first | exact HK.out | apply KeepBut.set_ | apply keep_drewN | apply keep_drew | apply keep_alloc) | exact HK.out)) (KeepBut.of_below hb g none) (.inl rfl)); have n2_ := Aside0.mk (below_step (by repeat (first | (with_reducible first | exact HB.out | apply below_alloc | apply pw_below_drewN | apply below_drew1 | refine below_set ?_ (IsS74.ge HI0.out)) | exact HB.out)) hb); clear HI0; clear HK; clear HB; have HI0 := n0_; have HK := n1_; have HB := n2_; clear n0_ n1_ n2_; (try clear hb); (try clear hb2); (try clear hk); (try clear hi)))
  (try simp only [Act.put, List.setIfInBounds_toArray, List.set_cons_zero, List.set_cons_succ])
  go_cut [24] (fun v24 wc => ∃ (kq : Nat) (x24_3 : Bool), v24 = .bool x24_3 ∧ Aside0 (say_parser_count.j0 kq s0_1 t181 t182 x24_3 s0_0 t178 t179 t180 = some (r1, r2, r3, r4)) ∧ Aside0 (kq ≤ k) ∧ Aside0 (IsS74 w0 wc g s0_0 t178 t179 t180) ∧ Aside0 (KeepBut w wc g none) ∧ Aside0 (Below w0.heap.size w0 wc))
  case first =>
    have H := HC4.out
    clear HC4
    by_cases c8 : t180 < 0
    · rw [if_pos c8] at H
      have c8b0 : decide (t180 < 0) = true := decide_eq_true c8
      clear c8
      (first | rw [c8b0] | (simp only [i64_w, i32_w]; rw [c8b0]) | skip)
      have H' := Aside0.mk H
      clear H
      obtain ⟨ASz9_0, cSz9_0, HGz9, hgz9, HSz9_0⟩ := HI0.out
      have hcz9_0 := cellS74_0 HGz9
      have hcz9_1 := cellS74_1 HGz9
      have hcz9_2 := cellS74_2 HGz9
      have hcz9_3 := cellS74_3 HGz9
      have hfz9_1 := blk_frozen HGz9 1
      have hfz9_2 := blk_frozen HGz9 2
      have hfz9_3 := blk_frozen HGz9 3
      clear HGz9 hgz9
      go_wp2
      go_meet
      case rel => exact ⟨_, (!t182), (by first | rfl | (simp; done) | (simp [*]; done)), H', ⟨by first | omega | exact Nat.le_refl _⟩, ⟨by repeat (first | (with_reducible first | exact HI0.out | apply IsS74.alloc | apply IsS74.drewN | apply IsS74.drew | apply IsS74.set_1 | apply IsS74.set_2 | apply IsS74.set_3) | exact HI0.out)⟩, ⟨by repeat (first | (with_reducible first | exact HK.out | apply KeepBut.set_ | apply keep_drewN | apply keep_drew | apply keep_alloc) | exact HK.out)⟩, ⟨by repeat (first | (with_reducible first | exact HB.out | apply below_alloc | apply pw_below_drewN | apply below_drew1 | refine below_set ?_ (IsS74.ge HI0.out)) | exact HB.out)⟩⟩
    · rw [if_neg c8] at H
      have c8b0 : decide (t180 < 0) = false := decide_eq_false c8
      clear c8
      (first | rw [c8b0] | (simp only [i64_w, i32_w]; rw [c8b0]) | skip)
      have H' := Aside0.mk H
      clear H
      obtain ⟨ASz10_0, cSz10_0, HGz10, hgz10, HSz10_0⟩ := HI0.out
      have hcz10_0 := cellS74_0 HGz10
      have hcz10_1 := cellS74_1 HGz10
      have hcz10_2 := cellS74_2 HGz10
      have hcz10_3 := cellS74_3 HGz10
      have hfz10_1 := blk_frozen HGz10 1
      have hfz10_2 := blk_frozen HGz10 2
      have hfz10_3 := blk_frozen HGz10 3
      clear HGz10 hgz10
      go_wp2
      go_meet
      case rel => exact ⟨_, (false), (by first | rfl | (simp; done) | (simp [*]; done)), H', ⟨by first | omega | exact Nat.le_refl _⟩, ⟨by repeat (first | (with_reducible first | exact HI0.out | apply IsS74.alloc | apply IsS74.drewN | apply IsS74.drew | apply IsS74.set_1 | apply IsS74.set_2 | apply IsS74.set_3) | exact HI0.out)⟩, ⟨by repeat (first | (with_reducible first | exact HK.out | apply KeepBut.set_ | apply keep_drewN | apply keep_drew | apply keep_alloc) | exact HK.out)⟩, ⟨by repeat (first | (with_reducible first | exact HB.out | apply below_alloc | apply pw_below_drewN | apply below_drew1 | refine below_set ?_ (IsS74.ge HI0.out)) | exact HB.out)⟩⟩
  case rest =>
    clear HC4
    try clear p2
    try clear c6
    try clear c7
    try clear c8
    try clear c8b0
    try clear hcz10_0
    try clear hcz10_1
    try clear hcz10_2
    try clear hcz10_3
    try clear hcz5_0
    try clear hcz5_1
    try clear hcz5_2
    try clear hcz5_3
    try clear hcz9_0
    try clear hcz9_1
    try clear hcz9_2
    try clear hcz9_3
    try clear hfz10_1
    try clear hfz10_2
    try clear hfz10_3
    try clear hfz5_1
    try clear hfz5_2
    try clear hfz5_3
    try clear hfz9_1
    try clear hfz9_2
    try clear hfz9_3
    obtain ⟨kq, x24_3, rfl, HA, HJ3, HI0, HK, HB⟩ := hcut
    cases kq with
    | zero => exact absurd HA.out (by simp [say_parser_count.j0])
    | succ kj3 =>
      have H := HA.out
      clear HA
      simp only [say_parser_count.j0] at H
      by_cases c11 : x24_3 = true
      · subst c11
        have H1 : ((say_parser_fail.f s0_0 s0_1 t179 t180).bind fun bt183 => (if t182 = true then (some (t181, bt183.1, bt183.2.1, bt183.2.2)) else (some (0, bt183.1, bt183.2.1, bt183.2.2)))) = some (r1, r2, r3, r4) := by rw [if_pos rfl] at H; exact H
        clear H
        have H := H1
        clear H1
        replace H := Option.bind_eq_some_iff.mp H
        obtain ⟨⟨t183, t184, t185⟩, A120, H⟩ := H
        replace H : (if t182 = true then (some (t181, t183, t184, t185)) else (some (0, t183, t184, t185))) = some (r1, r2, r3, r4) := H
        have A12 := Aside0.mk A120
        clear A120
        by_cases c13 : t182 = true
        · subst c13
          have H1 : (some (t181, t183, t184, t185)) = some (r1, r2, r3, r4) := by rw [if_pos rfl] at H; exact H
          clear H
          have H := H1
          clear H1
          simp only [Option.some.injEq, Prod.mk.injEq] at H
          obtain ⟨rfl, rfl, rfl, rfl⟩ := H
          obtain ⟨ASz14_0, cSz14_0, HGz14, hgz14, HSz14_0⟩ := HI0.out
          have hcz14_0 := cellS74_0 HGz14
          have hcz14_1 := cellS74_1 HGz14
          have hcz14_2 := cellS74_2 HGz14
          have hcz14_3 := cellS74_3 HGz14
          have hfz14_1 := blk_frozen HGz14 1
          have hfz14_2 := blk_frozen HGz14 2
          have hfz14_3 := blk_frozen HGz14 3
          clear HGz14 hgz14
          go_wp2_with (first | ((with_reducible refine gate_callee (f := 55) rfl ?_); refine goesL_ (some 30) rfl rfl Try.func55 (by kernel_rfl) rfl #[.pointer (some ⟨g, 0, none⟩)] rfl (by (try simp only [List.map_toArray, List.map_cons, List.map_nil]); first | done | rfl | (simp only [List.length_drop, List.length_take]; rfl)) ?_; (with_reducible refine (say_parser_fail.calls g s0_0 s0_1 t179 t180 t183 t184 t185 w0 _ ?side1 ?side2 A12.out).mono ?_); (case side1 => repeat (first | (with_reducible first | exact HI0.out | apply IsS74.alloc | apply IsS74.drewN | apply IsS74.drew | apply IsS74.set_1 | apply IsS74.set_2 | apply IsS74.set_3) | exact HI0.out)); (case side2 => repeat (first | (with_reducible first | exact HB.out | apply below_alloc | apply pw_below_drewN | apply below_drew1 | refine below_set ?_ (IsS74.ge HI0.out)) | exact HB.out)); rintro e w15 ⟨rfl, hi, hb, hk⟩; refine ⟨_, rfl, ?_⟩; have n0_ := Aside0.mk (KeepBut.trans (by repeat (first | (with_reducible first | exact HK.out | apply KeepBut.set_ | apply keep_drewN | apply keep_drew | apply keep_alloc) | exact HK.out)) hk (.inl rfl)); have n1_ := Aside0.mk (hb); have n2_ := Aside0.mk (hi); clear HK; clear HB; clear HI0; have HK := n0_; have HB := n1_; have HI0 := n2_; clear n0_ n1_ n2_; (try clear hb); (try clear hb2); (try clear hk); (try clear hi)))
          go_ret
          exact ⟨by first | rfl | (simp [errW_none, errW_some] <;> rfl) | (simp [*, errW_none, errW_some] <;> rfl), by repeat (first | (with_reducible first | exact HI0.out | apply IsS74.alloc | apply IsS74.drewN | apply IsS74.drew | apply IsS74.set_1 | apply IsS74.set_2 | apply IsS74.set_3) | exact HI0.out), by repeat (first | (with_reducible first | exact HB.out | apply below_alloc | apply pw_below_drewN | apply below_drew1 | refine below_set ?_ (IsS74.ge HI0.out)) | exact HB.out), by repeat (first | (with_reducible first | exact HK.out | apply KeepBut.set_ | apply keep_drewN | apply keep_drew | apply keep_alloc) | exact HK.out)⟩
        · replace c13 := Bool.eq_false_iff.mpr c13
          subst c13
          have H1 : (some (0, t183, t184, t185)) = some (r1, r2, r3, r4) := by rw [if_neg (show ¬ (false = true) by decide)] at H; exact H
          clear H
          have H := H1
          clear H1
          simp only [Option.some.injEq, Prod.mk.injEq] at H
          obtain ⟨rfl, rfl, rfl, rfl⟩ := H
          obtain ⟨ASz16_0, cSz16_0, HGz16, hgz16, HSz16_0⟩ := HI0.out
          have hcz16_0 := cellS74_0 HGz16
          have hcz16_1 := cellS74_1 HGz16
          have hcz16_2 := cellS74_2 HGz16
          have hcz16_3 := cellS74_3 HGz16
          have hfz16_1 := blk_frozen HGz16 1
          have hfz16_2 := blk_frozen HGz16 2
          have hfz16_3 := blk_frozen HGz16 3
          clear HGz16 hgz16
          go_wp2_with (first | ((with_reducible refine gate_callee (f := 55) rfl ?_); refine goesL_ (some 30) rfl rfl Try.func55 (by kernel_rfl) rfl #[.pointer (some ⟨g, 0, none⟩)] rfl (by (try simp only [List.map_toArray, List.map_cons, List.map_nil]); first | done | rfl | (simp only [List.length_drop, List.length_take]; rfl)) ?_; (with_reducible refine (say_parser_fail.calls g s0_0 s0_1 t179 t180 t183 t184 t185 w0 _ ?side1 ?side2 A12.out).mono ?_); (case side1 => repeat (first | (with_reducible first | exact HI0.out | apply IsS74.alloc | apply IsS74.drewN | apply IsS74.drew | apply IsS74.set_1 | apply IsS74.set_2 | apply IsS74.set_3) | exact HI0.out)); (case side2 => repeat (first | (with_reducible first | exact HB.out | apply below_alloc | apply pw_below_drewN | apply below_drew1 | refine below_set ?_ (IsS74.ge HI0.out)) | exact HB.out)); rintro e w17 ⟨rfl, hi, hb, hk⟩; refine ⟨_, rfl, ?_⟩; have n0_ := Aside0.mk (KeepBut.trans (by repeat (first | (with_reducible first | exact HK.out | apply KeepBut.set_ | apply keep_drewN | apply keep_drew | apply keep_alloc) | exact HK.out)) hk (.inl rfl)); have n1_ := Aside0.mk (hb); have n2_ := Aside0.mk (hi); clear HK; clear HB; clear HI0; have HK := n0_; have HB := n1_; have HI0 := n2_; clear n0_ n1_ n2_; (try clear hb); (try clear hb2); (try clear hk); (try clear hi)))
          go_ret
          exact ⟨by first | rfl | (simp [errW_none, errW_some] <;> rfl) | (simp [*, errW_none, errW_some] <;> rfl), by repeat (first | (with_reducible first | exact HI0.out | apply IsS74.alloc | apply IsS74.drewN | apply IsS74.drew | apply IsS74.set_1 | apply IsS74.set_2 | apply IsS74.set_3) | exact HI0.out), by repeat (first | (with_reducible first | exact HB.out | apply below_alloc | apply pw_below_drewN | apply below_drew1 | refine below_set ?_ (IsS74.ge HI0.out)) | exact HB.out), by repeat (first | (with_reducible first | exact HK.out | apply KeepBut.set_ | apply keep_drewN | apply keep_drew | apply keep_alloc) | exact HK.out)⟩
      · replace c11 := Bool.eq_false_iff.mpr c11
        subst c11
        have H1 : (if t182 = true then (some (t181, t178, t179, t180)) else (some (0, t178, t179, t180))) = some (r1, r2, r3, r4) := by rw [if_neg (show ¬ (false = true) by decide)] at H; exact H
        clear H
        have H := H1
        clear H1
        by_cases c18 : t182 = true
        · subst c18
          have H1 : (some (t181, t178, t179, t180)) = some (r1, r2, r3, r4) := by rw [if_pos rfl] at H; exact H
          clear H
          have H := H1
          clear H1
          simp only [Option.some.injEq, Prod.mk.injEq] at H
          obtain ⟨rfl, rfl, rfl, rfl⟩ := H
          go_wp2
          go_ret
          exact ⟨by first | rfl | (simp [errW_none, errW_some] <;> rfl) | (simp [*, errW_none, errW_some] <;> rfl), by repeat (first | (with_reducible first | exact HI0.out | apply IsS74.alloc | apply IsS74.drewN | apply IsS74.drew | apply IsS74.set_1 | apply IsS74.set_2 | apply IsS74.set_3) | exact HI0.out), by repeat (first | (with_reducible first | exact HB.out | apply below_alloc | apply pw_below_drewN | apply below_drew1 | refine below_set ?_ (IsS74.ge HI0.out)) | exact HB.out), by repeat (first | (with_reducible first | exact HK.out | apply KeepBut.set_ | apply keep_drewN | apply keep_drew | apply keep_alloc) | exact HK.out)⟩
        · replace c18 := Bool.eq_false_iff.mpr c18
          subst c18
          have H1 : (some (0, t178, t179, t180)) = some (r1, r2, r3, r4) := by rw [if_neg (show ¬ (false = true) by decide)] at H; exact H
          clear H
          have H := H1
          clear H1
          simp only [Option.some.injEq, Prod.mk.injEq] at H
          obtain ⟨rfl, rfl, rfl, rfl⟩ := H
          go_wp2
          go_ret
          exact ⟨by first | rfl | (simp [errW_none, errW_some] <;> rfl) | (simp [*, errW_none, errW_some] <;> rfl), by repeat (first | (with_reducible first | exact HI0.out | apply IsS74.alloc | apply IsS74.drewN | apply IsS74.drew | apply IsS74.set_1 | apply IsS74.set_2 | apply IsS74.set_3) | exact HI0.out), by repeat (first | (with_reducible first | exact HB.out | apply below_alloc | apply pw_below_drewN | apply below_drew1 | refine below_set ?_ (IsS74.ge HI0.out)) | exact HB.out), by repeat (first | (with_reducible first | exact HK.out | apply KeepBut.set_ | apply keep_drewN | apply keep_drew | apply keep_alloc) | exact HK.out)⟩

end Go.Proofs.Ytokkjnfdfbpphaa.A
namespace Go.Proofs.Ytokkjnfdfbpphaa.A
open Go.RowKit Go.Proofs.YtokkjnfdfbpphaaW.PrintWords Go.Proofs.YtokkjnfdfbpphaaW.PrintLast Go.Proofs.YtokkjnfdfbpphaaW.PrintMore
attribute [local go_sem] max2_int min2_int max_two min_two max_three min_three max_four min_four   -- for this text's walks alone
set_option linter.unusedVariables false
set_option linter.unusedSimpArgs false

/-! ### say_plain: function 26 -/
def say_plain.f (a0 : Int) : Option (Bool) := if a0 ≥ 32 then (if a0 < 127 then (if a0 = 34 then (some false) else (some (a0 != 92))) else (some false)) else (some false)
set_option maxHeartbeats 8000000 in
set_option maxRecDepth 100000 in
theorem say_plain.calls (a0 : Int) (r : Bool) (w : World) (h : say_plain.f a0 = some r) :
    Calls Try.prog 26 #[.int .u8 a0] w fun e w' => e = .returned (.bool r) ∧ Drawn0 w w' := by
  have H : (if a0 ≥ 32 then (if a0 < 127 then (if a0 = 34 then (some false) else (some (a0 != 92))) else (some false)) else (some false)) = some r := h
  clear h
  by_cases c2 : a0 ≥ 32
  · rw [if_pos c2] at H
    have c2b0 : decide (32 ≤ a0) = true := decide_eq_true c2
    clear c2
    by_cases c3 : a0 < 127
    · rw [if_pos c3] at H
      have c3b0 : decide (a0 < 127) = true := decide_eq_true c3
      clear c3
      by_cases c4 : a0 = 34
      · rw [if_pos c4] at H
        have c4b0 : (a0 == 34) = true := beq_iff_eq.mpr c4
        have c4b1 : (a0 != 34) = false := bne_eq_false_iff_eq.mpr c4
        clear c4
        obtain rfl := Option.some.inj H
        go_enter Try.func26, Try.ntmps26
        go_wp2
        go_ret
        exact ⟨by first | rfl | (simp; done) | (simp [*]; done), by repeat (first | exact Drawn0.refl _ | apply Drawn0.step)⟩
      · rw [if_neg c4] at H
        have c4b0 : (a0 == 34) = false := beq_eq_false_iff_ne.mpr c4
        have c4b1 : (a0 != 34) = true := bne_iff_ne.mpr c4
        obtain rfl := Option.some.inj H
        go_enter Try.func26, Try.ntmps26
        go_wp2
        go_ret
        exact ⟨by first | rfl | (simp; done) | (simp [*]; done), by repeat (first | exact Drawn0.refl _ | apply Drawn0.step)⟩
    · rw [if_neg c3] at H
      have c3b0 : decide (a0 < 127) = false := decide_eq_false c3
      clear c3
      obtain rfl := Option.some.inj H
      go_enter Try.func26, Try.ntmps26
      go_wp2
      go_ret
      exact ⟨by first | rfl | (simp; done) | (simp [*]; done), by repeat (first | exact Drawn0.refl _ | apply Drawn0.step)⟩
  · rw [if_neg c2] at H
    have c2b0 : decide (32 ≤ a0) = false := decide_eq_false c2
    clear c2
    obtain rfl := Option.some.inj H
    go_enter Try.func26, Try.ntmps26
    go_wp2
    go_ret
    exact ⟨by first | rfl | (simp; done) | (simp [*]; done), by repeat (first | exact Drawn0.refl _ | apply Drawn0.step)⟩

end Go.Proofs.Ytokkjnfdfbpphaa.A
namespace Go.Proofs.Ytokkjnfdfbpphaa.A
open Go.RowKit Go.Proofs.YtokkjnfdfbpphaaW.PrintWords Go.Proofs.YtokkjnfdfbpphaaW.PrintLast Go.Proofs.YtokkjnfdfbpphaaW.PrintMore
attribute [local go_sem] max2_int min2_int max_two min_two max_three min_three max_four min_four   -- for this text's walks alone
set_option linter.unusedVariables false
set_option linter.unusedSimpArgs false

/-! ### say_letter: function 48 -/
def say_letter.f (a0 : Int) : Option (Bool) := if a0 ≥ 97 then (if a0 ≤ 122 then (some true) else (if a0 ≥ 65 then (if a0 ≤ 90 then (some true) else (some (a0 == 95))) else (some (a0 == 95)))) else (if a0 ≥ 65 then (if a0 ≤ 90 then (some true) else (some (a0 == 95))) else (some (a0 == 95)))
set_option maxHeartbeats 8000000 in
set_option maxRecDepth 100000 in
theorem say_letter.calls (a0 : Int) (r : Bool) (w : World) (h : say_letter.f a0 = some r) :
    Calls Try.prog 48 #[.int .u8 a0] w fun e w' => e = .returned (.bool r) ∧ Drawn0 w w' := by
  have H : (if a0 ≥ 97 then (if a0 ≤ 122 then (some true) else (if a0 ≥ 65 then (if a0 ≤ 90 then (some true) else (some (a0 == 95))) else (some (a0 == 95)))) else (if a0 ≥ 65 then (if a0 ≤ 90 then (some true) else (some (a0 == 95))) else (some (a0 == 95)))) = some r := h
  clear h
  by_cases c2 : a0 ≥ 97
  · rw [if_pos c2] at H
    have c2b0 : decide (97 ≤ a0) = true := decide_eq_true c2
    clear c2
    by_cases c3 : a0 ≤ 122
    · rw [if_pos c3] at H
      have c3b0 : decide (a0 ≤ 122) = true := decide_eq_true c3
      clear c3
      obtain rfl := Option.some.inj H
      go_enter Try.func48, Try.ntmps48
      go_wp2
      go_ret
      exact ⟨by first | rfl | (simp; done) | (simp [*]; done), by repeat (first | exact Drawn0.refl _ | apply Drawn0.step)⟩
    · rw [if_neg c3] at H
      have c3b0 : decide (a0 ≤ 122) = false := decide_eq_false c3
      clear c3
      by_cases c4 : a0 ≥ 65
      · rw [if_pos c4] at H
        have c4b0 : decide (65 ≤ a0) = true := decide_eq_true c4
        clear c4
        by_cases c5 : a0 ≤ 90
        · rw [if_pos c5] at H
          have c5b0 : decide (a0 ≤ 90) = true := decide_eq_true c5
          clear c5
          obtain rfl := Option.some.inj H
          go_enter Try.func48, Try.ntmps48
          go_wp2
          go_ret
          exact ⟨by first | rfl | (simp; done) | (simp [*]; done), by repeat (first | exact Drawn0.refl _ | apply Drawn0.step)⟩
        · rw [if_neg c5] at H
          have c5b0 : decide (a0 ≤ 90) = false := decide_eq_false c5
          clear c5
          obtain rfl := Option.some.inj H
          go_enter Try.func48, Try.ntmps48
          go_wp2
          go_ret
          exact ⟨by first | rfl | (simp; done) | (simp [*]; done), by repeat (first | exact Drawn0.refl _ | apply Drawn0.step)⟩
      · rw [if_neg c4] at H
        have c4b0 : decide (65 ≤ a0) = false := decide_eq_false c4
        clear c4
        obtain rfl := Option.some.inj H
        go_enter Try.func48, Try.ntmps48
        go_wp2
        go_ret
        exact ⟨by first | rfl | (simp; done) | (simp [*]; done), by repeat (first | exact Drawn0.refl _ | apply Drawn0.step)⟩
  · rw [if_neg c2] at H
    have c2b0 : decide (97 ≤ a0) = false := decide_eq_false c2
    clear c2
    by_cases c6 : a0 ≥ 65
    · rw [if_pos c6] at H
      have c6b0 : decide (65 ≤ a0) = true := decide_eq_true c6
      clear c6
      by_cases c7 : a0 ≤ 90
      · rw [if_pos c7] at H
        have c7b0 : decide (a0 ≤ 90) = true := decide_eq_true c7
        clear c7
        obtain rfl := Option.some.inj H
        go_enter Try.func48, Try.ntmps48
        go_wp2
        go_ret
        exact ⟨by first | rfl | (simp; done) | (simp [*]; done), by repeat (first | exact Drawn0.refl _ | apply Drawn0.step)⟩
      · rw [if_neg c7] at H
        have c7b0 : decide (a0 ≤ 90) = false := decide_eq_false c7
        clear c7
        obtain rfl := Option.some.inj H
        go_enter Try.func48, Try.ntmps48
        go_wp2
        go_ret
        exact ⟨by first | rfl | (simp; done) | (simp [*]; done), by repeat (first | exact Drawn0.refl _ | apply Drawn0.step)⟩
    · rw [if_neg c6] at H
      have c6b0 : decide (65 ≤ a0) = false := decide_eq_false c6
      clear c6
      obtain rfl := Option.some.inj H
      go_enter Try.func48, Try.ntmps48
      go_wp2
      go_ret
      exact ⟨by first | rfl | (simp; done) | (simp [*]; done), by repeat (first | exact Drawn0.refl _ | apply Drawn0.step)⟩

end Go.Proofs.Ytokkjnfdfbpphaa.A
namespace Go.Proofs.Ytokkjnfdfbpphaa.A
open Go.RowKit Go.Proofs.YtokkjnfdfbpphaaW.PrintWords Go.Proofs.YtokkjnfdfbpphaaW.PrintLast Go.Proofs.YtokkjnfdfbpphaaW.PrintMore
attribute [local go_sem] max2_int min2_int max_two min_two max_three min_three max_four min_four   -- for this text's walks alone
set_option linter.unusedVariables false
set_option linter.unusedSimpArgs false

/-! ### say_digit: function 51 -/
def say_digit.f (a0 : Int) : Option (Bool) := if a0 ≥ 48 then (some (decide (a0 ≤ 57))) else (some false)
set_option maxHeartbeats 8000000 in
set_option maxRecDepth 100000 in
theorem say_digit.calls (a0 : Int) (r : Bool) (w : World) (h : say_digit.f a0 = some r) :
    Calls Try.prog 51 #[.int .u8 a0] w fun e w' => e = .returned (.bool r) ∧ Drawn0 w w' := by
  have H : (if a0 ≥ 48 then (some (decide (a0 ≤ 57))) else (some false)) = some r := h
  clear h
  by_cases c2 : a0 ≥ 48
  · rw [if_pos c2] at H
    have c2b0 : decide (48 ≤ a0) = true := decide_eq_true c2
    clear c2
    obtain rfl := Option.some.inj H
    go_enter Try.func51, Try.ntmps51
    go_wp2
    go_ret
    exact ⟨by first | rfl | (simp; done) | (simp [*]; done), by repeat (first | exact Drawn0.refl _ | apply Drawn0.step)⟩
  · rw [if_neg c2] at H
    have c2b0 : decide (48 ≤ a0) = false := decide_eq_false c2
    clear c2
    obtain rfl := Option.some.inj H
    go_enter Try.func51, Try.ntmps51
    go_wp2
    go_ret
    exact ⟨by first | rfl | (simp; done) | (simp [*]; done), by repeat (first | exact Drawn0.refl _ | apply Drawn0.step)⟩

end Go.Proofs.Ytokkjnfdfbpphaa.A
namespace Go.Proofs.Ytokkjnfdfbpphaa.A
open Go.RowKit Go.Proofs.YtokkjnfdfbpphaaW.PrintWords Go.Proofs.YtokkjnfdfbpphaaW.PrintLast Go.Proofs.YtokkjnfdfbpphaaW.PrintMore
attribute [local go_sem] max2_int min2_int max_two min_two max_three min_three max_four min_four   -- for this text's walks alone
set_option linter.unusedVariables false
set_option linter.unusedSimpArgs false

theorem digit_q (c : UInt8) (w : World) : Calls Try.prog 51 #[.int .u8 (c.toNat : Int)] w fun e w' => e = .returned (.bool (isDigit c)) ∧ ∃ n, w' = w.drewN n := by
  refine (say_digit.calls _ (isDigit c) w ?_).mono fun e w' ⟨he, hd⟩ => ⟨he, hd.out⟩
  unfold say_digit.f
  have e : isDigit c = (decide ((48 : Int) ≤ c.toNat) && decide ((c.toNat : Int) ≤ 57)) := by
    unfold isDigit; rw [Bool.eq_iff_iff]; simp [UInt8.le_iff_toNat_le]; omega
  rw [e]; split <;> simp_all <;> omega
theorem letter_q (c : UInt8) (w : World) : Calls Try.prog 48 #[.int .u8 (c.toNat : Int)] w fun e w' => e = .returned (.bool (isLetter c)) ∧ ∃ n, w' = w.drewN n := by
  refine (say_letter.calls _ (isLetter c) w ?_).mono fun e w' ⟨he, hd⟩ => ⟨he, hd.out⟩
  unfold say_letter.f
  have e : isLetter c = ((decide ((97 : Int) ≤ c.toNat) && decide ((c.toNat : Int) ≤ 122)) || (decide ((65 : Int) ≤ c.toNat) && decide ((c.toNat : Int) ≤ 90)) || decide ((c.toNat : Int) = 95)) := by
    unfold isLetter; rw [Bool.eq_iff_iff]; simp [UInt8.le_iff_toNat_le, ← UInt8.toNat_inj]; omega
  rw [e]; repeat' split
  all_goals (first | (simp_all; done) | (simp_all; omega) | (rw [Option.some.injEq, Bool.eq_iff_iff]; simp; omega))
theorem plain_q (c : UInt8) (w : World) : Calls Try.prog 26 #[.int .u8 (c.toNat : Int)] w fun e w' => e = .returned (.bool (isPlain c)) ∧ ∃ n, w' = w.drewN n := by
  refine (say_plain.calls _ (isPlain c) w ?_).mono fun e w' ⟨he, hd⟩ => ⟨he, hd.out⟩
  unfold say_plain.f
  have e : isPlain c = (decide ((32 : Int) ≤ c.toNat) && decide ((c.toNat : Int) < 127) && !decide ((c.toNat : Int) = 34) && !decide ((c.toNat : Int) = 92)) := by
    unfold isPlain; rw [Bool.eq_iff_iff]; simp [UInt8.le_iff_toNat_le, UInt8.lt_iff_toNat_lt, ← UInt8.toNat_inj]; omega
  rw [e]; repeat' split
  all_goals (first | (simp_all; done) | (simp_all; omega) | (rw [Option.some.injEq, Bool.eq_iff_iff]; simp; omega))

end Go.Proofs.Ytokkjnfdfbpphaa.A
namespace Go.Proofs.Ytokkjnfdfbpphaa.A
open Go.RowKit Go.Proofs.YtokkjnfdfbpphaaW.PrintWords Go.Proofs.YtokkjnfdfbpphaaW.PrintLast Go.Proofs.YtokkjnfdfbpphaaW.PrintMore
attribute [local go_sem] max2_int min2_int max_two min_two max_three min_three max_four min_four   -- for this text's walks alone
set_option linter.unusedVariables false
set_option linter.unusedSimpArgs false

theorem only_drewN {a w : World} {row : Option Nat} (h : a.grownBy w row) (n : Nat) : a.grownBy (w.drewN n) row := ⟨h.os, h.tape, h.output, h.size, h.block⟩
theorem only_drew {a w : World} {row : Option Nat} (h : a.grownBy w row) : a.grownBy w.drew row := ⟨h.os, h.tape, h.output, h.size, h.block⟩
theorem only_refl (w : World) (row : Option Nat) : w.grownBy w row := ⟨rfl, rfl, rfl, Nat.le_refl _, fun _ _ _ => rfl⟩
theorem only_alloc {a w : World} {row : Option Nat} (h : a.grownBy w row) (o : Obj) : a.grownBy (w.alloc o) row :=
  ⟨h.os, h.tape, h.output, Nat.le_trans h.size (by simp), fun i hi hne => (Below.heap_alloc w o i (Nat.lt_of_lt_of_le hi h.size)).trans (h.block i hi hne)⟩
theorem only_setCell {a w : World} {g : Nat} (h : a.grownBy w (some g)) {p : Addr} (hp : p.block = g ∨ a.heap.size ≤ p.block) (u : Value) : a.grownBy (w.setCell p u) (some g) :=
  ⟨h.os, h.tape, h.output, by simpa [World.setCell] using h.size, fun i hi hne => (Below.heap_setCell w p u i (by
    rintro rfl
    rcases hp with hp | hp
    · exact hne (by rw [hp])
    · omega)).trans (h.block i hi hne)⟩
theorem only_trans {a b c : World} {row : Option Nat} (h : a.grownBy b row) (k : b.grownBy c row) : a.grownBy c row :=
  ⟨k.os.trans h.os, k.tape.trans h.tape, k.output.trans h.output, Nat.le_trans h.size k.size, fun i hi hne => (k.block i (Nat.lt_of_lt_of_le hi h.size) hne).trans (h.block i hi hne)⟩
theorem only_of_below {a w : World} (h : Below a.heap.size a w) (row : Option Nat) : a.grownBy w row := ⟨h.os, h.tape, h.output, h.size, fun i hi _ => h.block i hi⟩

/-- The place in a lexer's block. -/
def atOf (w : World) (g : Nat) : Nat := match w.cell? ⟨g, 1, none⟩ with | some (.int _ n) => n.toNat | _ => 0
theorem atOf_of {w : World} {g : Nat} {s : ByteArray} {i : Nat} (h : w.heap[g]? = some (.cells #[.string s, .int .i64 (i : Int)] 68 (0, 0))) : atOf w g = i := by
  have e : w.cell? ⟨g, 1, none⟩ = some (.int .i64 (i : Int)) := (blk_cell h 1).trans rfl
  simp [atOf, e]
theorem adv {w : World} {g : Nat} {s : ByteArray} {i : Nat} (h : w.heap[g]? = some (.cells #[.string s, .int .i64 (i : Int)] 68 (0, 0))) :
    (w.setCell ⟨g, 1, none⟩ (.int .i64 ((i : Int) + 1))).heap[g]? = some (.cells #[.string s, .int .i64 ((i + 1 : Nat) : Int)] 68 (0, 0)) := by
  simpa using blk_put h 1 _ rfl
theorem bel_drewN {B : Nat} {a w : World} (h : Below B a w) (n : Nat) : Below B a (w.drewN n) := ⟨h.os, h.tape, h.output, h.size, h.block⟩
theorem only_below {w wr w2 : World} {r : Option Nat} (h : w.grownBy wr r) (k : Below w.heap.size wr w2) : w.grownBy w2 r :=
  ⟨k.os.trans h.os, k.tape.trans h.tape, k.output.trans h.output, Nat.le_trans h.size k.size, fun i hi hne => (k.block i hi).trans (h.block i hi hne)⟩
theorem quiet_add {P : Program} {f : FuncId} {args : Array Value} {w : World} {a n : Nat} {v : Value}
    (h : Calls P f args (w.drewN (a + n)) fun e w' => e = .returned v ∧ ∃ m, w' = (w.drewN (a + n)).drewN m) :
    Calls P f args (w.drewN (a + n)) fun e w'' => e = .returned v ∧ ∃ m, w'' = w.drewN (a + m) :=
  h.mono fun _ _ ⟨he, m, hm⟩ => ⟨he, n + m, by rw [hm, World.drewN_drewN, Nat.add_assoc]⟩
theorem gen_wp {P : Program} {c : Code} {Q : Exit → Act → World → Prop} {a : Act} {w : World} (S : World → Prop) (h : S w) (k : ∀ W, S W → c.wp P Q a W) : c.wp P Q a w := k w h
theorem gen_calls {P : Program} {f : FuncId} {args : Array Value} {R : Ending → World → Prop} {w : World} (S : World → Prop) (h : S w) (k : ∀ W, S W → Calls P f args W R) : Calls P f args w R := k w h
theorem new_three {w : World} {T : TypeId} (x y z a b c : Value) :
    ((((w.alloc (.cells #[x, y, z] T)).setCell ⟨w.heap.size, 0, none⟩ a).setCell ⟨w.heap.size, 1, none⟩ b).setCell ⟨w.heap.size, 2, none⟩ c).heap[w.heap.size]? = some (.cells #[a, b, c] T (0, 0)) :=
  blk_put (blk_put (blk_put (blk_new w _) 0 a rfl) 1 b rfl) 2 c rfl

end Go.Proofs.Ytokkjnfdfbpphaa.A
namespace Go.Proofs.Ytokkjnfdfbpphaa.A
open Go.RowKit Go.Proofs.YtokkjnfdfbpphaaW.PrintWords Go.Proofs.YtokkjnfdfbpphaaW.PrintLast Go.Proofs.YtokkjnfdfbpphaaW.PrintMore
attribute [local go_sem] max2_int min2_int max_two min_two max_three min_three max_four min_four   -- for this text's walks alone
set_option linter.unusedVariables false
set_option linter.unusedSimpArgs false

set_option maxHeartbeats 400000 in
theorem break_q (c : UInt8) (w : World) : Calls Try.prog 65 #[.int .u8 (c.toNat : Int)] w fun e w' => e = .returned (.bool (notBreak c)) ∧ ∃ n, w' = w.drewN n := by
  have e : notBreak c = ((c.toNat : Int) != 10) := by
    unfold notBreak; rw [Bool.eq_iff_iff]; simp [← UInt8.toNat_inj]; omega
  go_enter Try.func65, Try.ntmps65
  go_wp2
  go_ret
  exact ⟨by rw [e]; rfl, 0, rfl⟩
set_option maxHeartbeats 400000 in
theorem word_q (c : UInt8) (w : World) : Calls Try.prog 50 #[.int .u8 (c.toNat : Int)] w fun e w' => e = .returned (.bool (isWord c)) ∧ ∃ n, w' = w.drewN n := by
  cases hl : isLetter c with
  | true =>
    have e : isWord c = true := by simp [isWord, hl]
    go_enter Try.func50, Try.ntmps50
    go_wp2_with (go_at_call 48; refine (letter_q c _).mono ?_; rintro e w' ⟨rfl, n, rfl⟩; rw [hl])
    go_ret
    exact ⟨by rw [e]; rfl, _, rfl⟩
  | false =>
    have e : isWord c = isDigit c := by simp [isWord, hl]
    go_enter Try.func50, Try.ntmps50
    go_wp2_with (first | (go_at_call 48; refine (letter_q c _).mono ?_; rintro e w' ⟨rfl, n, rfl⟩; rw [hl]) | (go_at_call 51; refine (digit_q c _).mono ?_; rintro e w' ⟨rfl, n, rfl⟩))
    go_ret
    exact ⟨by rw [e]; rfl, _, rfl⟩

end Go.Proofs.Ytokkjnfdfbpphaa.A
namespace Go.Proofs.Ytokkjnfdfbpphaa.A
open Go.RowKit Go.Proofs.YtokkjnfdfbpphaaW.PrintWords Go.Proofs.YtokkjnfdfbpphaaW.PrintLast Go.Proofs.YtokkjnfdfbpphaaW.PrintMore
attribute [local go_sem] max2_int min2_int max_two min_two max_three min_three max_four min_four   -- for this text's walks alone
set_option linter.unusedVariables false
set_option linter.unusedSimpArgs false

set_option maxRecDepth 100000 in
set_option maxHeartbeats 1000000 in
theorem run_word (g : Nat) (s : ByteArray) (k : Nat) (w : World) (hb : w.heap[g]? = some (.cells #[.string s, .int .i64 (k : Int)] 68 (0, 0)))
    (hs : s.size ≤ 140737488351232) (hk : k ≤ s.size) :
    Calls Try.prog 49 #[.pointer (some ⟨g, 0, none⟩), .func (.func 50) #[] #[]] w fun e w' =>
      e = .returned (.string (s.extract k (runTo isWord s k))) ∧ w'.heap[g]? = some (.cells #[.string s, .int .i64 (runTo isWord s k : Int)] 68 (0, 0)) ∧ w.grownBy w' (some g) := by
  have HB := Aside0.mk hb
  have c0 : w.cell? ⟨g, 0, none⟩ = some (.string s) := (blk_cell hb 0).trans rfl
  have c1 : w.cell? ⟨g, 1, none⟩ = some (.int .i64 (k : Int)) := (blk_cell hb 1).trans rfl
  clear hb
  go_enter Try.func49, Try.ntmps49
  go_wp2
  clear c0 c1
  go_loopw [20] (fun v wr => ∃ i : Nat, k ≤ i ∧ i ≤ s.size ∧ Aside0 (runTo isWord s i = runTo isWord s k) ∧ Aside0 (wr.heap[g]? = some (.cells #[.string s, .int .i64 (i : Int)] 68 (0, 0))) ∧ Aside0 (w.grownBy wr (some g)))
    (fun _ wr => s.size - (match wr.cell? ⟨g, 1, none⟩ with | some (.int _ n) => n.toNat | _ => 0))
  case atStart => exact ⟨k, Nat.le_refl _, hk, ⟨rfl⟩, HB, ⟨only_refl _ _⟩⟩
  case round =>
    obtain ⟨i, hi1, hi2, hr, hb, ho⟩ := hrel
    have c0 : wr.cell? ⟨g, 0, none⟩ = some (.string s) := (blk_cell hb.out 0).trans rfl
    have c1 : wr.cell? ⟨g, 1, none⟩ = some (.int .i64 (i : Int)) := (blk_cell hb.out 1).trans rfl
    have f1 : wr.frozen? ⟨g, 1, none⟩ = false := blk_frozen hb.out 1
    by_cases hlt : i < s.size
    · have hd : decide ((i : Int) < (s.size : Int)) = true := by simpa using hlt
      cases hp : isWord s[i] with
      | true =>
        have hst := Aside0.mk (runTo_step isWord s i hlt hp)
        go_wp2_with fail
        go_quiet ((go_at_call 50; exact Calls.quiet_of (word_q _ _)))
        rw [hp]
        clear hp
        go_wp2
        go_roundw
        case rel => exact ⟨i + 1, by omega, by omega, ⟨hst.out.trans hr.out⟩, ⟨by simpa using blk_put (blk_drewN hb.out _) 1 _ rfl⟩, ⟨only_setCell (only_drewN ho.out _) (.inl rfl) _⟩⟩
        case measure =>
          have e1 : (World.setCell (wr.drewN nq) ⟨g, 1, none⟩ (.int .i64 ((i : Int) + 1))).cell? ⟨g, 1, none⟩ = some (.int .i64 ((i : Int) + 1)) := (blk_cell (blk_put (blk_drewN hb.out _) 1 _ rfl) 1).trans rfl
          rw [e1, c1]
          simp; omega
      | false =>
        have hst := Aside0.mk (runTo_stop isWord s i hlt hp)
        go_wp2_with fail
        go_quiet ((go_at_call 50; exact Calls.quiet_of (word_q _ _)))
        rw [hp]
        clear hp
        go_wp2
        go_quiet (fail)
        go_wp2
        go_ret
        exact ⟨by rw [← hr.out, hst.out]; rfl, by rw [← hr.out, hst.out]; exact hb.out, only_drewN (only_drewN ho.out _) _⟩
    · have hd : decide ((i : Int) < (s.size : Int)) = false := by simpa using hlt
      have hst := Aside0.mk (runTo_end isWord s i (by omega))
      go_wp2_with fail
      go_quiet (fail)
      go_wp2
      go_quiet (fail)
      go_wp2
      go_ret
      exact ⟨by rw [← hr.out, hst.out]; rfl, by rw [← hr.out, hst.out]; exact hb.out, only_drewN (only_drewN ho.out _) _⟩

end Go.Proofs.Ytokkjnfdfbpphaa.A
namespace Go.Proofs.Ytokkjnfdfbpphaa.A
open Go.RowKit Go.Proofs.YtokkjnfdfbpphaaW.PrintWords Go.Proofs.YtokkjnfdfbpphaaW.PrintLast Go.Proofs.YtokkjnfdfbpphaaW.PrintMore
attribute [local go_sem] max2_int min2_int max_two min_two max_three min_three max_four min_four   -- for this text's walks alone
set_option linter.unusedVariables false
set_option linter.unusedSimpArgs false

set_option maxRecDepth 100000 in
set_option maxHeartbeats 1000000 in
theorem run_digits (g : Nat) (s : ByteArray) (k : Nat) (w : World) (hb : w.heap[g]? = some (.cells #[.string s, .int .i64 (k : Int)] 68 (0, 0)))
    (hs : s.size ≤ 140737488351232) (hk : k ≤ s.size) :
    Calls Try.prog 49 #[.pointer (some ⟨g, 0, none⟩), .func (.func 51) #[] #[]] w fun e w' =>
      e = .returned (.string (s.extract k (runTo isDigit s k))) ∧ w'.heap[g]? = some (.cells #[.string s, .int .i64 (runTo isDigit s k : Int)] 68 (0, 0)) ∧ w.grownBy w' (some g) := by
  have HB := Aside0.mk hb
  have c0 : w.cell? ⟨g, 0, none⟩ = some (.string s) := (blk_cell hb 0).trans rfl
  have c1 : w.cell? ⟨g, 1, none⟩ = some (.int .i64 (k : Int)) := (blk_cell hb 1).trans rfl
  clear hb
  go_enter Try.func49, Try.ntmps49
  go_wp2
  clear c0 c1
  go_loopw [20] (fun v wr => ∃ i : Nat, k ≤ i ∧ i ≤ s.size ∧ Aside0 (runTo isDigit s i = runTo isDigit s k) ∧ Aside0 (wr.heap[g]? = some (.cells #[.string s, .int .i64 (i : Int)] 68 (0, 0))) ∧ Aside0 (w.grownBy wr (some g)))
    (fun _ wr => s.size - (match wr.cell? ⟨g, 1, none⟩ with | some (.int _ n) => n.toNat | _ => 0))
  case atStart => exact ⟨k, Nat.le_refl _, hk, ⟨rfl⟩, HB, ⟨only_refl _ _⟩⟩
  case round =>
    obtain ⟨i, hi1, hi2, hr, hb, ho⟩ := hrel
    have c0 : wr.cell? ⟨g, 0, none⟩ = some (.string s) := (blk_cell hb.out 0).trans rfl
    have c1 : wr.cell? ⟨g, 1, none⟩ = some (.int .i64 (i : Int)) := (blk_cell hb.out 1).trans rfl
    have f1 : wr.frozen? ⟨g, 1, none⟩ = false := blk_frozen hb.out 1
    by_cases hlt : i < s.size
    · have hd : decide ((i : Int) < (s.size : Int)) = true := by simpa using hlt
      cases hp : isDigit s[i] with
      | true =>
        have hst := Aside0.mk (runTo_step isDigit s i hlt hp)
        go_wp2_with fail
        go_quiet ((go_at_call 51; exact Calls.quiet_of (digit_q _ _)))
        rw [hp]
        clear hp
        go_wp2
        go_roundw
        case rel => exact ⟨i + 1, by omega, by omega, ⟨hst.out.trans hr.out⟩, ⟨by simpa using blk_put (blk_drewN hb.out _) 1 _ rfl⟩, ⟨only_setCell (only_drewN ho.out _) (.inl rfl) _⟩⟩
        case measure =>
          have e1 : (World.setCell (wr.drewN nq) ⟨g, 1, none⟩ (.int .i64 ((i : Int) + 1))).cell? ⟨g, 1, none⟩ = some (.int .i64 ((i : Int) + 1)) := (blk_cell (blk_put (blk_drewN hb.out _) 1 _ rfl) 1).trans rfl
          rw [e1, c1]
          simp; omega
      | false =>
        have hst := Aside0.mk (runTo_stop isDigit s i hlt hp)
        go_wp2_with fail
        go_quiet ((go_at_call 51; exact Calls.quiet_of (digit_q _ _)))
        rw [hp]
        clear hp
        go_wp2
        go_quiet (fail)
        go_wp2
        go_ret
        exact ⟨by rw [← hr.out, hst.out]; rfl, by rw [← hr.out, hst.out]; exact hb.out, only_drewN (only_drewN ho.out _) _⟩
    · have hd : decide ((i : Int) < (s.size : Int)) = false := by simpa using hlt
      have hst := Aside0.mk (runTo_end isDigit s i (by omega))
      go_wp2_with fail
      go_quiet (fail)
      go_wp2
      go_quiet (fail)
      go_wp2
      go_ret
      exact ⟨by rw [← hr.out, hst.out]; rfl, by rw [← hr.out, hst.out]; exact hb.out, only_drewN (only_drewN ho.out _) _⟩

end Go.Proofs.Ytokkjnfdfbpphaa.A
namespace Go.Proofs.Ytokkjnfdfbpphaa.A
open Go.RowKit Go.Proofs.YtokkjnfdfbpphaaW.PrintWords Go.Proofs.YtokkjnfdfbpphaaW.PrintLast Go.Proofs.YtokkjnfdfbpphaaW.PrintMore
attribute [local go_sem] max2_int min2_int max_two min_two max_three min_three max_four min_four   -- for this text's walks alone
set_option linter.unusedVariables false
set_option linter.unusedSimpArgs false

set_option maxRecDepth 100000 in
set_option maxHeartbeats 1000000 in
theorem run_remark (g : Nat) (s : ByteArray) (k : Nat) (w : World) (hb : w.heap[g]? = some (.cells #[.string s, .int .i64 (k : Int)] 68 (0, 0)))
    (hs : s.size ≤ 140737488351232) (hk : k ≤ s.size) :
    Calls Try.prog 49 #[.pointer (some ⟨g, 0, none⟩), .func (.func 65) #[] #[]] w fun e w' =>
      e = .returned (.string (s.extract k (runTo notBreak s k))) ∧ w'.heap[g]? = some (.cells #[.string s, .int .i64 (runTo notBreak s k : Int)] 68 (0, 0)) ∧ w.grownBy w' (some g) := by
  have HB := Aside0.mk hb
  have c0 : w.cell? ⟨g, 0, none⟩ = some (.string s) := (blk_cell hb 0).trans rfl
  have c1 : w.cell? ⟨g, 1, none⟩ = some (.int .i64 (k : Int)) := (blk_cell hb 1).trans rfl
  clear hb
  go_enter Try.func49, Try.ntmps49
  go_wp2
  clear c0 c1
  go_loopw [20] (fun v wr => ∃ i : Nat, k ≤ i ∧ i ≤ s.size ∧ Aside0 (runTo notBreak s i = runTo notBreak s k) ∧ Aside0 (wr.heap[g]? = some (.cells #[.string s, .int .i64 (i : Int)] 68 (0, 0))) ∧ Aside0 (w.grownBy wr (some g)))
    (fun _ wr => s.size - (match wr.cell? ⟨g, 1, none⟩ with | some (.int _ n) => n.toNat | _ => 0))
  case atStart => exact ⟨k, Nat.le_refl _, hk, ⟨rfl⟩, HB, ⟨only_refl _ _⟩⟩
  case round =>
    obtain ⟨i, hi1, hi2, hr, hb, ho⟩ := hrel
    have c0 : wr.cell? ⟨g, 0, none⟩ = some (.string s) := (blk_cell hb.out 0).trans rfl
    have c1 : wr.cell? ⟨g, 1, none⟩ = some (.int .i64 (i : Int)) := (blk_cell hb.out 1).trans rfl
    have f1 : wr.frozen? ⟨g, 1, none⟩ = false := blk_frozen hb.out 1
    by_cases hlt : i < s.size
    · have hd : decide ((i : Int) < (s.size : Int)) = true := by simpa using hlt
      cases hp : notBreak s[i] with
      | true =>
        have hst := Aside0.mk (runTo_step notBreak s i hlt hp)
        go_wp2_with fail
        go_quiet ((go_at_call 65; exact Calls.quiet_of (break_q _ _)))
        rw [hp]
        clear hp
        go_wp2
        go_roundw
        case rel => exact ⟨i + 1, by omega, by omega, ⟨hst.out.trans hr.out⟩, ⟨by simpa using blk_put (blk_drewN hb.out _) 1 _ rfl⟩, ⟨only_setCell (only_drewN ho.out _) (.inl rfl) _⟩⟩
        case measure =>
          have e1 : (World.setCell (wr.drewN nq) ⟨g, 1, none⟩ (.int .i64 ((i : Int) + 1))).cell? ⟨g, 1, none⟩ = some (.int .i64 ((i : Int) + 1)) := (blk_cell (blk_put (blk_drewN hb.out _) 1 _ rfl) 1).trans rfl
          rw [e1, c1]
          simp; omega
      | false =>
        have hst := Aside0.mk (runTo_stop notBreak s i hlt hp)
        go_wp2_with fail
        go_quiet ((go_at_call 65; exact Calls.quiet_of (break_q _ _)))
        rw [hp]
        clear hp
        go_wp2
        go_quiet (fail)
        go_wp2
        go_ret
        exact ⟨by rw [← hr.out, hst.out]; rfl, by rw [← hr.out, hst.out]; exact hb.out, only_drewN (only_drewN ho.out _) _⟩
    · have hd : decide ((i : Int) < (s.size : Int)) = false := by simpa using hlt
      have hst := Aside0.mk (runTo_end notBreak s i (by omega))
      go_wp2_with fail
      go_quiet (fail)
      go_wp2
      go_quiet (fail)
      go_wp2
      go_ret
      exact ⟨by rw [← hr.out, hst.out]; rfl, by rw [← hr.out, hst.out]; exact hb.out, only_drewN (only_drewN ho.out _) _⟩

end Go.Proofs.Ytokkjnfdfbpphaa.A
namespace Go.Proofs.Ytokkjnfdfbpphaa.A
open Go.RowKit Go.Proofs.YtokkjnfdfbpphaaW.PrintWords Go.Proofs.YtokkjnfdfbpphaaW.PrintLast Go.Proofs.YtokkjnfdfbpphaaW.PrintMore
attribute [local go_sem] max2_int min2_int max_two min_two max_three min_three max_four min_four   -- for this text's walks alone
set_option linter.unusedVariables false
set_option linter.unusedSimpArgs false

set_option maxRecDepth 100000 in
set_option maxHeartbeats 1000000 in
theorem blanks_calls (g : Nat) (s : ByteArray) (k : Nat) (w : World) (hb : w.heap[g]? = some (.cells #[.string s, .int .i64 (k : Int)] 68 (0, 0)))
    (hs : s.size ≤ 140737488351232) (hk : k ≤ s.size) :
    Calls Try.prog 47 #[.pointer (some ⟨g, 0, none⟩)] w fun e w' =>
      e = .returned (.tuple #[]) ∧ w'.heap[g]? = some (.cells #[.string s, .int .i64 (blanksTo s k : Int)] 68 (0, 0)) ∧ w.grownBy w' (some g) := by
  have HB := Aside0.mk hb
  clear hb
  go_enter Try.func47, Try.ntmps47
  go_wp2
  go_loopw [22] (fun v wr => ∃ i : Nat, k ≤ i ∧ i ≤ s.size ∧ Aside0 (blanksTo s i = blanksTo s k) ∧ Aside0 (wr.heap[g]? = some (.cells #[.string s, .int .i64 (i : Int)] 68 (0, 0))) ∧ Aside0 (w.grownBy wr (some g)))
    (fun _ wr => s.size - atOf wr g)
  case atStart => exact ⟨k, Nat.le_refl _, hk, ⟨rfl⟩, HB, ⟨only_refl _ _⟩⟩
  case round =>
    obtain ⟨i, hi1, hi2, hr, hb, ho⟩ := hrel
    have c0 : wr.cell? ⟨g, 0, none⟩ = some (.string s) := (blk_cell hb.out 0).trans rfl
    have c1 : wr.cell? ⟨g, 1, none⟩ = some (.int .i64 (i : Int)) := (blk_cell hb.out 1).trans rfl
    have f1 : wr.frozen? ⟨g, 1, none⟩ = false := blk_frozen hb.out 1
    by_cases hlt : i < s.size
    · have hd : decide ((i : Int) < (s.size : Int)) = true := by simpa using hlt
      have hl2 : (i : Int) < (s.size : Int) := by omega
      go_wp2_with fail
      go_quiet (fail)
      go_wp2_with fail
      go_quiet (fail)
      go_wp2_with fail
      all_goals first
        | (have hst := blanksTo_blank' s i hlt (by first | (left; assumption) | (right; left; assumption) | (simp_all <;> omega))
           exact ⟨⟨i + 1, by omega, by omega, ⟨hst.trans hr.out⟩, ⟨adv (blk_drewN hb.out _)⟩, ⟨only_setCell (only_drewN ho.out _) (.inl rfl) _⟩⟩, by rw [atOf_of (adv (blk_drewN hb.out _)), atOf_of hb.out]; omega⟩)
        | (have h35 : (s[i] == 35) = true := by rw [show (35 : UInt8) = UInt8.ofNat 35 from rfl, u8_eq s[i] 35 (by omega)]; simp_all
           have hst := blanksTo_remark s i hlt h35
           have hlt2 := runTo_lt notBreak s i hlt (by rw [beq_iff_eq.1 h35]; decide)
           have hle := runTo_le notBreak s i hi2
           refine (run_remark g s i _ (blk_drewN hb.out _) hs hi2).mono ?_
           rintro e w1 ⟨rfl, h1, h2⟩
           have H1 := Aside0.mk h1
           have H2 := Aside0.mk h2
           have HS := Aside0.mk hst
           clear h1 h2 hst
           go_wp2
           exact ⟨⟨runTo notBreak s i, by omega, by omega, ⟨HS.out.trans hr.out⟩, H1, ⟨only_trans (only_drewN ho.out _) H2.out⟩⟩, by rw [atOf_of H1.out, atOf_of hb.out]; omega⟩)
        | (have hst := blanksTo_stop s i hlt (by
             have := u8_eq s[i] 32 (by omega); have := u8_eq s[i] 10 (by omega); have := u8_eq s[i] 9 (by omega); simp_all) (by have := u8_eq s[i] 35 (by omega); simp_all)
           refine bodyPost_ret (results_none rfl _ _ _) rfl ⟨rfl, ?_, ?_⟩
           · rw [← hr.out, hst]; exact hb.out
           · exact only_drewN ho.out _)
    · have hd : decide ((i : Int) < (s.size : Int)) = false := by simpa using hlt
      have hst := Aside0.mk (blanksTo_end s i (by omega))
      go_wp2_with fail
      go_quiet (fail)
      go_wp2
      go_end0
      exact ⟨rfl, by rw [← hr.out, hst.out]; exact hb.out, only_drewN ho.out _⟩

end Go.Proofs.Ytokkjnfdfbpphaa.A
namespace Go.Proofs.Ytokkjnfdfbpphaa.A
open Go.RowKit Go.Proofs.YtokkjnfdfbpphaaW.PrintWords Go.Proofs.YtokkjnfdfbpphaaW.PrintLast Go.Proofs.YtokkjnfdfbpphaaW.PrintMore
attribute [local go_sem] max2_int min2_int max_two min_two max_three min_three max_four min_four   -- for this text's walks alone
set_option linter.unusedVariables false
set_option linter.unusedSimpArgs false

def hexOk (a b : UInt8) : Bool := decide (0 ≤ hexVal a) && decide (0 ≤ hexVal b)
theorem hexOk_true {a b : UInt8} (h : (0 : Int) ≤ hexVal a) : hexOk a b = decide ((0 : Int) ≤ hexVal b) := by unfold hexOk; rw [decide_eq_true h]; rfl
theorem hexOk_false {a b : UInt8} (h : hexVal a < 0) : hexOk a b = false := by unfold hexOk; rw [decide_eq_false (by omega)]; rfl
theorem hex_q (c : UInt8) (w : World) : Calls Try.prog 53 #[.string ⟨#[48, 49, 50, 51, 52, 53, 54, 55, 56, 57, 97, 98, 99, 100, 101, 102]⟩, .int .u8 (c.toNat : Int)] w fun e w' => e = .returned (.int .i64 (hexVal c)) ∧ w' = w := by
  refine (Try.strings_IndexByte _ _ w).mono ?_
  rintro e w' ⟨rfl, rfl⟩
  refine ⟨?_, rfl⟩
  rw [← indexByte_hex]
  simp [hexSigns]
set_option maxRecDepth 100000 in
set_option maxHeartbeats 1000000 in
theorem escape_short (s : ByteArray) (w : World) (hs : s.size < 2) :
    Calls Try.prog 66 #[.string s] w fun e w' => e = .returned (.tuple #[.int .u8 0, .bool false]) ∧ ∃ n, w' = w.drewN n := by
  have hd : decide ((s.size : Int) < 2) = true := by simpa using (by omega : (s.size : Int) < 2)
  go_enter Try.func66, Try.ntmps66
  go_wp2
  go_ret2
  exact ⟨rfl, 0, rfl⟩
theorem or16 (a b : Int) (h0 : 0 ≤ a) (h1 : a ≤ 15) (h2 : 0 ≤ b) (h3 : b ≤ 15) : bits .or .i64 (a * 16) b % 256 = 16 * a + b := by
  have key : ∀ x y : Fin 16, bits .or .i64 ((x.1 : Int) * 16) (y.1 : Int) % 256 = 16 * (x.1 : Int) + (y.1 : Int) := by decide +kernel
  have := key ⟨a.toNat, by omega⟩ ⟨b.toNat, by omega⟩
  simp only [Int.toNat_of_nonneg h0, Int.toNat_of_nonneg h2] at this
  exact this
def escV (a b : UInt8) : Int := bits .or .i64 (hexVal a * 16) (hexVal b) % 256
theorem escV_eq (a b : UInt8) (h : hexOk a b = true) : ∃ v : UInt8, escV a b = (v.toNat : Int) ∧ escapeVal [a, b] = some v := by
  simp only [hexOk, Bool.and_eq_true, decide_eq_true_eq] at h
  have ha := hexVal_lt a; have hb := hexVal_lt b
  refine ⟨UInt8.ofNat (16 * (hexVal a).toNat + (hexVal b).toNat), ?_, ?_⟩
  · unfold escV; rw [or16 _ _ h.1 ha.2 h.2 hb.2, UInt8.toNat_ofNat']; omega
  · show (if 0 ≤ hexVal a ∧ 0 ≤ hexVal b then _ else _) = _; rw [if_pos h]
theorem escapeVal_none (a b : UInt8) (h : hexOk a b = false) : escapeVal [a, b] = none := by
  simp only [hexOk, Bool.and_eq_false_iff, decide_eq_false_iff_not] at h
  show (if 0 ≤ hexVal a ∧ 0 ≤ hexVal b then _ else _) = _; rw [if_neg (by omega)]
set_option maxRecDepth 100000 in
set_option maxHeartbeats 1000000 in
theorem escape_long (s : ByteArray) (w : World) (hs : 2 ≤ s.size) :
    Calls Try.prog 66 #[.string s] w fun e w' => e = .returned (.tuple #[.int .u8 (escV s[0] s[1]), .bool (hexOk s[0] s[1])]) ∧ ∃ n, w' = w.drewN n := by
  have hd : decide ((s.size : Int) < 2) = false := by simpa using (by omega : ¬ (s.size : Int) < 2)
  have h0 : 0 < s.size := by omega
  have h1 : 1 < s.size := by omega
  have h1i : (1 : Int) < (s.size : Int) := by omega
  have a0 := hexVal_lt s[0]
  have a1 := hexVal_lt s[1]
  by_cases ha : 0 ≤ hexVal s[0]
  · go_enter Try.func66, Try.ntmps66
    go_wp2
    go_quiet ((go_at_call 53; exact Calls.quiet_of_same (hex_q _ _)))
    go_wp2
    go_ret2
    exact ⟨by rw [hexOk_true (by simpa using ha)]; rfl, _, rfl⟩
  · have hb : decide (0 ≤ hexVal s[0]) = false := decide_eq_false ha
    go_enter Try.func66, Try.ntmps66
    go_wp2
    go_quiet ((go_at_call 53; exact Calls.quiet_of_same (hex_q _ _)))
    go_wp2
    go_ret2
    exact ⟨by rw [hexOk_false (by simpa using ha)]; rfl, _, rfl⟩
theorem escape_tail (s : ByteArray) (a : Nat) (w : World) (h : a + 1 < s.size) :
    Calls Try.prog 66 #[.string (s.extract a s.size)] w fun e w' => e = .returned (.tuple #[.int .u8 (escV s[a] s[a + 1]), .bool (hexOk s[a] s[a + 1])]) ∧ ∃ n, w' = w.drewN n := by
  have hz := extract_size s a (by omega)
  have g0 := extract_get s a 0 (by omega) (by omega)
  have g1 := extract_get s a 1 (by omega) (by omega)
  refine (escape_long (s.extract a s.size) w (by omega)).mono ?_
  rintro e w' ⟨rfl, hw⟩
  refine ⟨?_, hw⟩
  rw [g0, g1]; rfl
theorem escape_tail_short (s : ByteArray) (a : Nat) (w : World) (h : a ≤ s.size) (h2 : s.size < a + 2) :
    Calls Try.prog 66 #[.string (s.extract a s.size)] w fun e w' => e = .returned (.tuple #[.int .u8 0, .bool false]) ∧ ∃ n, w' = w.drewN n :=
  escape_short _ w (by have := extract_size s a h; omega)
def markIdx (c : UInt8) : Int := Lib.indexByte [61, 44, 40, 41, 91, 93, 59] c
theorem mark_q (c : UInt8) (w : World) : Calls Try.prog 53 #[.string ⟨#[61, 44, 40, 41, 91, 93, 59]⟩, .int .u8 (c.toNat : Int)] w fun e w' => e = .returned (.int .i64 (markIdx c)) ∧ w' = w := by
  refine (Try.strings_IndexByte _ _ w).mono ?_
  rintro e w' ⟨rfl, rfl⟩
  exact ⟨by simp [markIdx], rfl⟩
theorem markIdx_dec (c : UInt8) : decide (0 ≤ markIdx c) = isMark c := indexByte_mark c

end Go.Proofs.Ytokkjnfdfbpphaa.A
namespace Go.Proofs.Ytokkjnfdfbpphaa.A
open Go.RowKit Go.Proofs.YtokkjnfdfbpphaaW.PrintWords Go.Proofs.YtokkjnfdfbpphaaW.PrintLast Go.Proofs.YtokkjnfdfbpphaaW.PrintMore
attribute [local go_sem] max2_int min2_int max_two min_two max_three min_three max_four min_four   -- for this text's walks alone
set_option linter.unusedVariables false
set_option linter.unusedSimpArgs false

/-- A builder in block b (from B on) that holds the bytes l. -/
def Bld (B b : Nat) (l : List UInt8) (w : World) : Prop := Lib.IsBuilder 57 5 B b (Lib.byteCells l) w
theorem bld_keep {B b : Nat} {l : List UInt8} {w w1 : World} (h : Bld B b l w) (hb : Below w.heap.size w w1) : Bld B b l w1 := by
  have hg := grown_of_below hb none
  have go : ∀ p, Lib.BuilderAt 57 5 B b p (Lib.byteCells l) w → Lib.BuilderAt 57 5 B b p (Lib.byteCells l) w1 := by
    rintro p ⟨h1, v, h2, h3, h4⟩
    refine ⟨h1, v, blk_below h2 hb, ⟨h3.1, ?_⟩, h4⟩
    rcases h3.2 with h3 | ⟨g, cap, cur, hv, hg, hh, r⟩
    · exact .inl h3
    · exact .inr ⟨g, cap, cur, hv, hg, blk_below hh hb, r⟩
  exact h.imp (go _) (go _)
theorem bld_drewN {B b : Nat} {l : List UInt8} {w : World} (h : Bld B b l w) (n : Nat) : Bld B b l (w.drewN n) := bld_keep h ⟨rfl, rfl, rfl, Nat.le_refl _, fun _ _ => rfl⟩
theorem bld_drew {B b : Nat} {l : List UInt8} {w : World} (h : Bld B b l w) : Bld B b l w.drew := bld_keep h ⟨rfl, rfl, rfl, Nat.le_refl _, fun _ _ => rfl⟩
theorem bld_alloc {B b : Nat} {l : List UInt8} {w : World} (h : Bld B b l w) (o : Obj) : Bld B b l (w.alloc o) := bld_keep h ((Below.refl _ _).alloc (Nat.le_refl _) o)
theorem bld_new (w : World) : Bld w.heap.size w.heap.size [] (w.alloc (.cells #[.pointer none, .slice none 0 0] 57)) := Lib.fresh_isBuilder 57 5 w
theorem bld_lt {B b : Nat} {l : List UInt8} {w : World} (h : Bld B b l w) : B ≤ b ∧ b < w.heap.size := by rcases h with h | h <;> exact ⟨h.1, h.lt⟩
theorem info57 : ∃ j, Try.prog.info? 57 = some j ∧ j.size = 2 := by
  have h : (Try.prog.info? 57).map (·.size) = some 2 := by kernel_rfl
  exact Option.map_eq_some_iff.1 h
set_option maxHeartbeats 1000000 in
set_option maxRecDepth 100000 in
theorem copyCheck_used (b : Nat) (w : World) (h0 : w.cell? ⟨b, 0, none⟩ = some (.pointer (some ⟨b, 0, none⟩))) :
    Calls Try.prog 46 #[.pointer (some ⟨b, 0, none⟩)] w fun e w' => e = .returned (.tuple #[]) ∧ w' = w := by
  obtain ⟨j, hj, _⟩ := info57
  go_enter Try.func46, Try.ntmps46
  go_wp2
  rw [Lib.run_neq_ptr_same w _ Try.underlying54 hj]
  go_wp2
  go_end0
  exact ⟨rfl, rfl⟩
set_option maxHeartbeats 1000000 in
set_option maxRecDepth 100000 in
theorem copyCheck_fresh (b : Nat) (w : World) (h0 : w.cell? ⟨b, 0, none⟩ = some (.pointer none)) (hsh : w.shape? b = some (57, 2)) (hfz : w.frozen? ⟨b, 0, none⟩ = false) :
    Calls Try.prog 46 #[.pointer (some ⟨b, 0, none⟩)] w fun e w' => e = .returned (.tuple #[]) ∧ w' = w.setCell ⟨b, 0, none⟩ (.pointer (some ⟨b, 0, none⟩)) := by
  obtain ⟨j, hj, hjs⟩ := info57
  go_enter Try.func46, Try.ntmps46
  go_wp2
  rw [Lib.run_to_unsafe w ⟨b, 0, none⟩ Try.underlying54 Try.underlying103 hj (by rw [hjs]; decide) hsh (Nat.zero_lt_succ 1)]
  go_wp2
  rw [run_callFunc_extern Try.func64 (by kernel_rfl) (by kernel_rfl) (by kernel_rfl) (e := Extern.AbiNoEscape.same) (by kernel_rfl), Lib.run_noEscape]
  go_wp2
  rw [Lib.run_from_unsafe w ⟨b, 0, none⟩ Try.underlying103 Try.underlying54 hj hsh (by kernel_rfl)]
  go_wp2
  go_end0
  exact ⟨rfl, rfl⟩
theorem copyCheck_calls (B b : Nat) (bs : List Value) (w : World) (h : Lib.IsBuilder 57 5 B b bs w) :
    Calls Try.prog 46 #[.pointer (some ⟨b, 0, none⟩)] w fun e w' => e = .returned (.tuple #[]) ∧ (Lib.BuilderAt 57 5 B b (.pointer (some ⟨b, 0, none⟩)) bs w' ∧ Below B w w') := by
  rcases h with h | h
  · refine (copyCheck_fresh b w h.cell0 h.shape h.frozen0).mono ?_
    rintro e w' ⟨rfl, rfl⟩
    exact ⟨rfl, h.used _, (Below.refl B w).setCell (p := ⟨b, 0, none⟩) h.1 _⟩
  · refine (copyCheck_used b w h.cell0).mono ?_
    rintro e w' ⟨rfl, rfl⟩
    exact ⟨rfl, h, Below.refl B _⟩
set_option maxHeartbeats 2000000 in
set_option maxRecDepth 100000 in
theorem bld_byte (B b : Nat) (l : List UInt8) (c : UInt8) (w : World) (h : Bld B b l w) (hlen : l.length + 1 ≤ 140737488355328) (hBw : B ≤ w.heap.size) :
    Calls Try.prog 25 #[.pointer (some ⟨b, 0, none⟩), .int .u8 (c.toNat : Int)] w fun e w' => e = .returned .nilIface ∧ Bld B b (l ++ [c]) w' ∧ Below B w w' := by
  have hbl : (Lib.byteCells l).length = l.length := by simp [Lib.byteCells]
  have hbc : Lib.byteCells (l ++ [c]) = Lib.byteCells l ++ [.int .u8 (c.toNat : Int)] := by simp [Lib.byteCells]
  obtain ⟨i0, hi, hz0, hz1, hz2⟩ := info_parts info5
  have HC := Aside0.mk hbc
  clear hbc
  have HL := Aside0.mk hbl
  clear hbl
  go_enter Try.func25, Try.ntmps25
  go_wp2_with (go_at_call 46; refine (copyCheck_calls B b _ _ h).mono ?_)
  rintro e w1 ⟨rfl, h1, hb1⟩
  obtain ⟨hB, v, hbk, hown, hne⟩ := h1
  have c0 : w1.cell? ⟨b, 0, none⟩ = some (.pointer (some ⟨b, 0, none⟩)) := by rw [Lib.cell_of_heap hbk]; rfl
  have c1 : w1.cell? ⟨b, 1, none⟩ = some v := by rw [Lib.cell_of_heap hbk]; rfl
  go_wp2_with (at_builtin; refine wpList_append_own _ rfl _ _ 55 rfl B 5 i0 (.int .u8 0) 1 1 Try.underlying55 hi hz0 hz1 hz2 rfl (by decide) _ _ _ rfl (hown.alloc _) ⟨w1.heap.size, 0, none⟩ 1 1 [.int .u8 (c.toNat : Int)] rfl rfl ?c1 ?c2 ?c3 ?c4 ?c5 ?_)
  case c1 =>
    intro j u hj
    match j, hj with
    | 0, hj => simp at hj; subst hj; simp [Addr.add]
  case c2 => intro u hu; simp at hu; subst hu; rfl
  case c3 => rw [HL.out]; unfold maxLen; omega
  case c4 => rw [HL.out]; omega
  case c5 => have := hb1.size; simp; omega
  intro v' w2 hown' hgrow _
  have hlt : b < w1.heap.size := blk_lt hbk
  have hb2 : w2.heap[b]? = some (.cells #[.pointer (some ⟨b, 0, none⟩), v] 57 (0, 0)) := by
    rw [hgrow.block b (by simp; omega) (fun e => hne e.symm), Lib.alloc_old w1 _ b hlt]
    exact hbk
  have d0 : w2.cell? ⟨b, 0, none⟩ = some (.pointer (some ⟨b, 0, none⟩)) := by rw [Lib.cell_of_heap hb2]; rfl
  have d1 : w2.cell? ⟨b, 1, none⟩ = some v := by rw [Lib.cell_of_heap hb2]; rfl
  have f1 : w2.frozen? ⟨b, 1, none⟩ = false := Lib.frozen_of_heap hb2 1
  obtain ⟨g, cap, rfl⟩ : ∃ g cap, v' = .slice (some ⟨g, 0, none⟩) ((Lib.byteCells l).length + 1) cap := by
    rcases hown'.2 with ⟨_, h0⟩ | ⟨g, cap, cur, hv, _⟩
    · omega
    · exact ⟨g, cap, hv⟩
  go_wp2
  go_ret
  refine ⟨rfl, .inr ?_, ?_⟩
  · rw [HC.out]
    exact Lib.BuilderAt.put (T := 57) (e := 5) hB hb2 (bs' := Lib.byteCells l ++ [.int .u8 (c.toNat : Int)]) (by simpa using hown') (by decide)
  · exact ((hb1.alloc (by have := hb1.size; omega) _).grown hgrow (by have := hb1.size; simp; omega) (fun k hk => (hown.lt k hk).1)).setCell (p := ⟨b, 1, none⟩) hB _
set_option maxHeartbeats 2000000 in
set_option maxRecDepth 100000 in
theorem bld_str (B b : Nat) (l : List UInt8) (s : ByteArray) (w : World) (h : Bld B b l w) (hlen : l.length + s.size ≤ 140737488355328) (hBw : B ≤ w.heap.size) :
    Calls Try.prog 27 #[.pointer (some ⟨b, 0, none⟩), .string s] w fun e w' => e = .returned (.tuple #[.int .i64 s.size, .nilIface]) ∧ Bld B b (l ++ s.data.toList) w' ∧ Below B w w' := by
  have hbl : (Lib.byteCells l).length = l.length := by simp [Lib.byteCells]
  have hbc : Lib.byteCells (l ++ s.data.toList) = Lib.byteCells l ++ Lib.strCells s := by simp [Lib.byteCells, Lib.strCells]
  obtain ⟨i0, hi, hz0, hz1, hz2⟩ := info_parts info5
  have HC := Aside0.mk hbc
  clear hbc
  have HL := Aside0.mk hbl
  clear hbl
  go_enter Try.func27, Try.ntmps27
  go_wp2_with (go_at_call 46; refine (copyCheck_calls B b _ _ h).mono ?_)
  rintro e w1 ⟨rfl, h1, hb1⟩
  obtain ⟨hB, v, hbk, hown, hne⟩ := h1
  have c0 : w1.cell? ⟨b, 0, none⟩ = some (.pointer (some ⟨b, 0, none⟩)) := by rw [Lib.cell_of_heap hbk]; rfl
  have c1 : w1.cell? ⟨b, 1, none⟩ = some v := by rw [Lib.cell_of_heap hbk]; rfl
  go_wp2_with (at_builtin; refine Lib.wpList_append_own_string _ rfl _ _ 55 9 rfl B 5 i0 Try.underlying55 Try.underlying9 hi hz0 hz1 hz2 _ _ _ rfl hown s rfl ?c3 ?c4 ?c5 ?_)
  case c3 => rw [HL.out]; unfold maxLen; omega
  case c4 => rw [HL.out]; omega
  case c5 => exact Nat.le_trans hBw hb1.size
  intro v' w2 hown' hgrow _
  have hb2 : w2.heap[b]? = some (.cells #[.pointer (some ⟨b, 0, none⟩), v] 57 (0, 0)) := (hgrow.block b (blk_lt hbk) (fun e => hne e.symm)).trans hbk
  have d0 : w2.cell? ⟨b, 0, none⟩ = some (.pointer (some ⟨b, 0, none⟩)) := by rw [Lib.cell_of_heap hb2]; rfl
  have d1 : w2.cell? ⟨b, 1, none⟩ = some v := by rw [Lib.cell_of_heap hb2]; rfl
  have f1 : w2.frozen? ⟨b, 1, none⟩ = false := Lib.frozen_of_heap hb2 1
  obtain ⟨ao, n, cap, rfl⟩ : ∃ ao n cap, v' = .slice ao n cap := by
    rcases hown'.2 with ⟨h, _⟩ | ⟨g, cap, cur, hv, _⟩
    · exact ⟨none, 0, 0, h⟩
    · exact ⟨_, _, cap, hv⟩
  go_wp2
  go_ret2
  refine ⟨rfl, .inr ?_, ?_⟩
  · rw [HC.out]
    exact Lib.BuilderAt.put (T := 57) (e := 5) hB hb2 (bs' := Lib.byteCells l ++ Lib.strCells s) (by simpa [Lib.strCells_length] using hown') (by decide)
  · exact (hb1.grown hgrow (Nat.le_trans hBw hb1.size) (fun k hk => (hown.lt k hk).1)).setCell (p := ⟨b, 1, none⟩) hB _
theorem bld_string (B b : Nat) (l : List UInt8) (w : World) (h : Bld B b l w) (hBw : B ≤ w.heap.size) :
    Calls Try.prog 28 #[.pointer (some ⟨b, 0, none⟩)] w fun e w' => e = .returned (.string ⟨l.toArray⟩) ∧ Below B w w' := Try.Builder_String_any B b l w h hBw
theorem bld_set {B b : Nat} {l : List UInt8} {w : World} (h : Bld B b l w) {p : Addr} (hp : p.block < B) (u : Value) : Bld B b l (w.setCell p u) := by
  have go : ∀ q, Lib.BuilderAt 57 5 B b q (Lib.byteCells l) w → Lib.BuilderAt 57 5 B b q (Lib.byteCells l) (w.setCell p u) := by
    rintro q ⟨h1, v, h2, h3, h4⟩
    exact ⟨h1, v, (Below.heap_setCell _ _ _ _ (by omega)).trans h2, ownsRow_setCell_below h3 hp u, h4⟩
  exact h.imp (go _) (go _)
theorem bld_new_set (w : World) (p : Addr) (u : Value) : Bld w.heap.size w.heap.size [] ((w.setCell p u).alloc (.cells #[.pointer none, .slice none 0 0] 57)) := by
  have h := bld_new (w.setCell p u)
  have e : (w.setCell p u).heap.size = w.heap.size := by simp [World.setCell]
  rwa [e] at h

end Go.Proofs.Ytokkjnfdfbpphaa.A
namespace Go.Proofs.Ytokkjnfdfbpphaa.A
open Go.RowKit Go.Proofs.YtokkjnfdfbpphaaW.PrintWords Go.Proofs.YtokkjnfdfbpphaaW.PrintLast Go.Proofs.YtokkjnfdfbpphaaW.PrintMore
attribute [local go_sem] max2_int min2_int max_two min_two max_three min_three max_four min_four   -- for this text's walks alone
set_option linter.unusedVariables false
set_option linter.unusedSimpArgs false

def QuotePost (s : ByteArray) (k g : Nat) (e : Ending) (w' : World) : Prop :=
  match unqAt s k with
  | some (l, j) => e = .returned (.tuple #[.string ⟨l.toArray⟩, .bool true]) ∧ w'.heap[g]? = some (.cells #[.string s, .int .i64 (j : Int)] 68 (0, 0))
  | none => e = .returned (.tuple #[.string ⟨#[]⟩, .bool false]) ∧ ∃ j : Nat, w'.heap[g]? = some (.cells #[.string s, .int .i64 (j : Int)] 68 (0, 0))
theorem quote_fail {s : ByteArray} {k i g : Nat} {acc : List UInt8} {w' : World} (hr : unqAt s k = (unqAt s i).map fun p => (acc ++ p.1, p.2)) (h : unqAt s i = none)
    {j : Nat} (hb : w'.heap[g]? = some (.cells #[.string s, .int .i64 (j : Int)] 68 (0, 0))) : QuotePost s k g (.returned (.tuple #[.string ⟨#[]⟩, .bool false])) w' := by
  unfold QuotePost; rw [hr, h]; exact ⟨rfl, j, hb⟩
set_option maxRecDepth 100000 in
set_option maxHeartbeats 2000000 in
theorem quote_calls (g : Nat) (s : ByteArray) (k : Nat) (w : World) (hb : w.heap[g]? = some (.cells #[.string s, .int .i64 (k : Int)] 68 (0, 0)))
    (hs : s.size ≤ 140737488351232) (hk : k < s.size) :
    Calls Try.prog 52 #[.pointer (some ⟨g, 0, none⟩)] w fun e w' => QuotePost s (k + 1) g e w' ∧ w.grownBy w' (some g) := by
  have hgl := blk_lt hb
  have HB := Aside0.mk (blk_alloc (adv hb) (.cells #[.pointer none, .slice none 0 0] 57))
  have HN := Aside0.mk (bld_new_set w ⟨g, 1, none⟩ (.int .i64 ((k : Int) + 1)))
  have HO := Aside0.mk (only_alloc (only_setCell (g := g) (only_refl w (some g)) (p := ⟨g, 1, none⟩) (.inl rfl) (.int .i64 ((k : Int) + 1))) (.cells #[.pointer none, .slice none 0 0] 57))
  have c1 : (w.alloc (.cells #[.pointer none, .slice none 0 0] 57)).cell? ⟨g, 1, none⟩ = some (.int .i64 (k : Int)) := (blk_cell (blk_alloc hb _) 1).trans rfl
  have f1 : (w.alloc (.cells #[.pointer none, .slice none 0 0] 57)).frozen? ⟨g, 1, none⟩ = false := blk_frozen (blk_alloc hb _) 1
  clear hb
  go_enter Try.func52, Try.ntmps52
  go_wp2
  go_loopw [24] (fun v wr => ∃ (i : Nat) (acc : List UInt8), k < i ∧ i ≤ s.size ∧ acc.length ≤ i ∧ Aside0 (unqAt s (k + 1) = (unqAt s i).map fun p => (acc ++ p.1, p.2)) ∧ Aside0 (wr.heap[g]? = some (.cells #[.string s, .int .i64 (i : Int)] 68 (0, 0))) ∧ Aside0 (Bld w.heap.size w.heap.size acc wr) ∧ Aside0 (w.grownBy wr (some g)))
    (fun _ wr => s.size - atOf wr g)
  case atStart => exact ⟨k + 1, [], by omega, by omega, by simp, ⟨by simp⟩, HB, HN, HO⟩
  case round =>
    clear c1 f1 HB HN HO
    obtain ⟨i, acc, hi1, hi2, hal, hr, hb, hbl, ho⟩ := hrel
    have c0 : wr.cell? ⟨g, 0, none⟩ = some (.string s) := (blk_cell hb.out 0).trans rfl
    have c1 : wr.cell? ⟨g, 1, none⟩ = some (.int .i64 (i : Int)) := (blk_cell hb.out 1).trans rfl
    have f1 : wr.frozen? ⟨g, 1, none⟩ = false := blk_frozen hb.out 1
    by_cases hlt : i < s.size
    · have hd : decide ((i : Int) < (s.size : Int)) = true := by simpa using hlt
      have hl2 : (i : Int) < (s.size : Int) := by omega
      go_wp2_with fail
      go_quiet (fail)
      obtain ⟨n1, rfl⟩ : ∃ n1, n1 = nq := ⟨_, rfl⟩
      go_wp2_with fail
      go_quiet (fail)
      obtain ⟨n2, rfl⟩ : ∃ n2, n2 = nq := ⟨_, rfl⟩
      by_cases h34 : s[i] = 34
      · have hst := unqAt_close s i hlt h34
        have e34 : ((s[i].toNat : Int) == 34) = true := by rw [h34]; rfl
        go_wp2_with fail
        have HO1 := Aside0.mk (only_setCell (g := g) (only_drewN ho.out (n1 + n2)) (p := ⟨g, 1, none⟩) (.inl rfl) (.int .i64 ((i : Int) + 1)))
        have HB1 := Aside0.mk (adv (blk_drewN hb.out (n1 + n2)))
        refine (bld_string w.heap.size w.heap.size acc _ (bld_set (bld_drewN hbl.out _) hgl _) HO1.out.size).mono ?_
        rintro e w2 ⟨rfl, hw2⟩
        go_wp2
        refine bodyPost_ret (results_tmp2 rfl _ _ _) rfl ⟨?_, only_below HO1.out hw2⟩
        unfold QuotePost
        rw [hr.out, hst]
        exact ⟨by simp, (hw2.block g hgl).trans HB1.out⟩
      have e34 : ((s[i].toNat : Int) == 34) = false := u8_ne s[i] 34 h34
      by_cases h92 : s[i] = 92
      · have e92 : ((s[i].toNat : Int) == 92) = true := by rw [h92]; rfl
        go_wp2_with fail
        by_cases hl1 : i + 1 < s.size
        · have hd1 : decide ((s.size : Int) ≤ (i : Int) + 1) = false := by simp; omega
          have hl3 : (i : Int) + 1 < (s.size : Int) := by omega
          have hz : (0 : Int) ≤ (i : Int) + 1 := by omega
          by_cases h120 : s[i + 1] = 120
          · have e120 : ((s[i + 1].toNat : Int) != 120) = false := u8_bneF s[i + 1] 120 h120
            go_quiet (fail)
            obtain ⟨n3, rfl⟩ : ∃ n3, n3 = nq := ⟨_, rfl⟩
            go_wp2_with fail
            have hl5 : (i : Int) + 2 ≤ (s.size : Int) := by omega
            by_cases hl4 : i + 3 < s.size
            · have hst := Aside0.mk (unqAt_esc s i hl4 h92)
              have hq0 : (0 : Int) ≤ (i : Int) + 2 := by omega
              have hqw : IntKind.i64.wrap ((i : Int) + 2) = (i : Int) + 2 := by rw [IntKind.wrap_i64]; omega
              have hqt : ((i : Int) + 2).toNat = i + 2 := by omega
              go_quiet ((go_at_call 66; exact quiet_add (escape_tail s (i + 2) _ (by omega))))
              obtain ⟨n4, rfl⟩ : ∃ n4, n4 = nq := ⟨_, rfl⟩
              clear hqw hqt
              cases hok : hexOk s[i + 2] s[i + 2 + 1] with
              | false =>
                have hst2 := Aside0.mk (show unqAt s i = none by rw [hst.out, if_pos h120, escapeVal_none _ _ hok])
                go_wp2_with fail
                go_ret2
                exact ⟨quote_fail hr.out hst2.out hb.out, only_drewN ho.out _⟩
              | true =>
                obtain ⟨v, hv, hv2⟩ := escV_eq _ _ hok
                have hst2 : Aside0 (unqAt s i = if isPlain v then none else (unqAt s (i + 4)).map fun p => (v :: p.1, p.2)) := ⟨hst.out.trans (by rw [if_pos h120, hv2])⟩
                rw [hv]
                clear hv hv2 hok
                go_wp2_with fail
                refine (plain_q v _).mono ?_
                rintro e w2 ⟨rfl, n5, rfl⟩
                cases hp : isPlain v with
                | true =>
                  have hst3 : Aside0 (unqAt s i = none) := ⟨hst2.out.trans (by rw [if_pos hp])⟩
                  clear hp
                  go_wp2_with fail
                  go_ret2
                  exact ⟨quote_fail hr.out hst3.out hb.out, only_drewN ho.out _⟩
                | false =>
                  have hst3 : Aside0 (unqAt s i = (unqAt s (i + 4)).map fun p => (v :: p.1, p.2)) := ⟨hst2.out.trans (by rw [if_neg (by simp [hp])])⟩
                  clear hp
                  go_wp2_with fail
                  refine (bld_byte w.heap.size w.heap.size acc v _ (bld_drewN hbl.out _) (by omega) ho.out.size).mono ?_
                  rintro e w3 ⟨rfl, hb3, hw3⟩
                  have HB3 := Aside0.mk hb3
                  have HO3 : Aside0 (w.grownBy w3 (some g)) := ⟨only_below (only_drewN ho.out _) hw3⟩
                  have HG3 : Aside0 (w3.heap[g]? = some (.cells #[.string s, .int .i64 (i : Int)] 68 (0, 0))) := ⟨(hw3.block g hgl).trans (blk_drewN hb.out _)⟩
                  have d1 : w3.cell? ⟨g, 1, none⟩ = some (.int .i64 (i : Int)) := (blk_cell HG3.out 1).trans rfl
                  have g1 : w3.frozen? ⟨g, 1, none⟩ = false := blk_frozen HG3.out 1
                  clear hb3 hw3
                  go_wp2_with fail
                  have HG4 : Aside0 ((w3.setCell ⟨g, 1, none⟩ (.int .i64 ((i : Int) + 4))).heap[g]? = some (.cells #[.string s, .int .i64 ((i + 4 : Nat) : Int)] 68 (0, 0))) := ⟨by simpa using blk_put HG3.out 1 _ rfl⟩
                  go_roundw
                  case rel => exact ⟨i + 4, acc ++ [v], by omega, by omega, by simp; omega, ⟨by rw [hr.out, hst3.out, Option.map_map]; congr 1; funext p; simp⟩, HG4, ⟨bld_set HB3.out hgl _⟩, ⟨only_setCell HO3.out (.inl rfl) _⟩⟩
                  case measure => rw [atOf_of HG4.out, atOf_of hb.out]; omega
            · have hst := Aside0.mk (unqAt_cut s i hlt h92 (by omega))
              have hq0 : (0 : Int) ≤ (i : Int) + 2 := by omega
              have hqw : IntKind.i64.wrap ((i : Int) + 2) = (i : Int) + 2 := by rw [IntKind.wrap_i64]; omega
              have hqt : ((i : Int) + 2).toNat = i + 2 := by omega
              go_quiet ((go_at_call 66; exact quiet_add (escape_tail_short s (i + 2) _ (by omega) (by omega))))
              clear hqw hqt
              go_wp2_with fail
              go_ret2
              exact ⟨quote_fail hr.out hst.out hb.out, only_drewN ho.out _⟩
          · have e120 : ((s[i + 1].toNat : Int) != 120) = true := u8_bne s[i + 1] 120 h120
            have hst := Aside0.mk (unqAt_no120 s i hl1 h92 h120)
            go_quiet (fail)
            go_wp2_with fail
            go_ret2
            exact ⟨quote_fail hr.out hst.out hb.out, only_drewN (only_drewN ho.out _) _⟩
        · have hd1 : decide ((s.size : Int) ≤ (i : Int) + 1) = true := by simp; omega
          have hst := Aside0.mk (unqAt_cut s i hlt h92 (by omega))
          go_quiet (fail)
          go_wp2_with fail
          go_ret2
          exact ⟨quote_fail hr.out hst.out hb.out, only_drewN (only_drewN ho.out _) _⟩
      · have e92 : ((s[i].toNat : Int) == 92) = false := u8_ne s[i] 92 h92
        go_wp2_with fail
        refine (plain_q s[i] _).mono ?_
        rintro e w2 ⟨rfl, n3, rfl⟩
        cases hp : isPlain s[i] with
        | true =>
          have hst := Aside0.mk (unqAt_plain s i hlt h34 h92 hp)
          clear hp h34 h92
          go_wp2_with fail
          refine (bld_byte w.heap.size w.heap.size acc s[i] _ (bld_drewN hbl.out _) (by omega) ho.out.size).mono ?_
          rintro e w3 ⟨rfl, hb3, hw3⟩
          have HB3 := Aside0.mk hb3
          have HO3 : Aside0 (w.grownBy w3 (some g)) := ⟨only_below (only_drewN ho.out _) hw3⟩
          have HG3 : Aside0 (w3.heap[g]? = some (.cells #[.string s, .int .i64 (i : Int)] 68 (0, 0))) := ⟨(hw3.block g hgl).trans (blk_drewN hb.out _)⟩
          have d1 : w3.cell? ⟨g, 1, none⟩ = some (.int .i64 (i : Int)) := (blk_cell HG3.out 1).trans rfl
          have g1 : w3.frozen? ⟨g, 1, none⟩ = false := blk_frozen HG3.out 1
          clear hb3 hw3
          go_wp2_with fail
          go_roundw
          case rel => exact ⟨i + 1, acc ++ [s[i]], by omega, by omega, by simp; omega, ⟨by rw [hr.out, hst.out, Option.map_map]; congr 1; funext p; simp⟩, ⟨adv HG3.out⟩, ⟨bld_set HB3.out hgl _⟩, ⟨only_setCell HO3.out (.inl rfl) _⟩⟩
          case measure => rw [atOf_of (adv HG3.out), atOf_of hb.out]; omega
        | false =>
          have hst := Aside0.mk (unqAt_odd s i hlt h34 h92 hp)
          clear hp h34 h92
          go_wp2_with fail
          go_ret2
          exact ⟨quote_fail hr.out hst.out hb.out, only_drewN ho.out _⟩
    · have hd : decide ((i : Int) < (s.size : Int)) = false := by simpa using hlt
      have hst := Aside0.mk (unqAt_end s i (by omega))
      go_wp2_with fail
      go_quiet (fail)
      go_wp2
      go_ret2
      exact ⟨quote_fail hr.out hst.out hb.out, only_drewN ho.out _⟩

end Go.Proofs.Ytokkjnfdfbpphaa.A
