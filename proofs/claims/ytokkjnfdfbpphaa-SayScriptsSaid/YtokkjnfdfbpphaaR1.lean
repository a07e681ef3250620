/- The functions that this claim's statement reaches, each with what it computes and the proof that it does. -/
import Derived.Test.YtokkjnfdfbpphaaProg
import Derived.Below
import Derived.Deep.Draws
import Derived.Deep.AppendLies
import Derived.Maps.AppendAt
import Derived.OwnWalk
import Derived.Laws.BytesArg
import Derived.Laws.MakeOwn
import Derived.Laws.OwnMore
import Derived.Deep.OwnRows
import Derived.Tactics
import Derived.Lib.ConvBytes
import Derived.Laws.Slices
import Derived.WalkKit
import Derived.KernelRfl
import Derived.RowKit3
import Derived.Deep.LoopGhost
import Derived.Deep.QuietTactic
import Derived.BigQuiet
import Derived.WideLaws
import Derived.Deep.DeepCutAuto
import Derived.Deep.CutBlock
import Derived.Deep.RegionHeld3
import Derived.Laws.Rows
import Derived.Lib.AppendStr
import Derived.ArgAppend
import Derived.Laws.IdiomCopy
import Derived.OrdersHeld
import Derived.Laws.BitsLemmas
import Derived.RowKit
import Derived.Lib.Builder
import Derived.Lib.UnsafeStr
import Derived.Test.YtokkjnfdfbpphaaShelf
import Derived.Test.YtokkjnfdfbpphaaWWords
import Derived.Test.YtokkjnfdfbpphaaWLast
import Derived.Test.YtokkjnfdfbpphaaWTab
import Derived.Test.YtokkjnfdfbpphaaWQPut
import Derived.Test.YtokkjnfdfbpphaaWApart
import Derived.Test.YtokkjnfdfbpphaaWArr
import Derived.Test.YtokkjnfdfbpphaaWZeros
import Derived.Test.YtokkjnfdfbpphaaWFoot
import Derived.Test.YtokkjnfdfbpphaaWKept
import Derived.Test.YtokkjnfdfbpphaaWShare
import Derived.Test.YtokkjnfdfbpphaaWN
import Derived.Test.YtokkjnfdfbpphaaWEqStruct
import Derived.Test.YtokkjnfdfbpphaaWRepsOne
import Derived.Test.YtokkjnfdfbpphaaWInv
import Derived.Test.YtokkjnfdfbpphaaWGuard
import Derived.Test.YtokkjnfdfbpphaaWNEv
import Derived.Test.YtokkjnfdfbpphaaWMore
namespace Go.Proofs.Ytokkjnfdfbpphaa.A
open Go.RowKit Go.Proofs.YtokkjnfdfbpphaaW.PrintWords Go.Proofs.YtokkjnfdfbpphaaW.PrintLast Go.Proofs.YtokkjnfdfbpphaaW.PrintMore
attribute [local go_sem] max2_int min2_int max_two min_two max_three min_three max_four min_four   -- for this text's walks alone
set_option linter.unusedVariables false
set_option linter.unusedSimpArgs false



def errW : Option Int → Value
  | none => .nilIface
  | some c => .iface 0 (.int .i64 c)
theorem errW_none : errW none = .nilIface := rfl
theorem errW_some (c : Int) : errW (some c) = .iface 0 (.int .i64 c) := rfl

theorem info3 : (Try.prog.info? 3).map (fun i => (i.zero, i.size, i.bytes)) = some (some (.int .i64 0), 1, 8) := by kernel_rfl
theorem info5 : (Try.prog.info? 5).map (fun i => (i.zero, i.size, i.bytes)) = some (some (.int .u8 0), 1, 1) := by kernel_rfl
theorem info9 : (Try.prog.info? 9).map (fun i => (i.zero, i.size, i.bytes)) = some (some (.string ⟨#[]⟩), 1, 16) := by kernel_rfl
theorem info87 : (Try.prog.info? 87).map (fun i => (i.zero, i.size, i.bytes)) = some (some (.agg #[(.string ⟨#[]⟩), (.int .i64 0), (.bool false), (.int .i64 0), (.int .u64 0), (.string ⟨#[]⟩)]), 6, 64) := by kernel_rfl
-- the values' own types
/-! #### struct type 28 -/
structure S28 where
  f0 : Int
  f1 : ByteArray
  f2 : Int
def z28 : S28 := ⟨(0 : Int), (⟨#[]⟩ : ByteArray), (0 : Int)⟩
def k28 : Kd S28 := Kd.iso (Kd.pair (Kd.int .i64) (Kd.pair Kd.string (Kd.int .i64))) (fun x : S28 => (x.f0, x.f1, x.f2))
theorem k28_open {w : World} {x : S28} {cs : List Value} (h : k28.K w x cs) : cs = [.int .i64 x.f0, .string x.f1, .int .i64 x.f2] := by
  obtain ⟨_, _, rfl, rfl, ⟨_, _, rfl, rfl, rfl⟩⟩ := h
  exact rfl
theorem k28_openM {w : World} {base : Nat} {ok : Nat → Prop} {x : S28} {cs : List Value} (h : k28.M w base ok x cs) : cs = [.int .i64 x.f0, .string x.f1, .int .i64 x.f2] := by
  obtain ⟨_, _, rfl, rfl, ⟨_, _, rfl, rfl, rfl⟩⟩ := h
  exact rfl
theorem k28_mk (w : World) (x : S28)  : k28.K w x [.int .i64 x.f0, .string x.f1, .int .i64 x.f2] := ⟨[.int .i64 x.f0], [.string x.f1, .int .i64 x.f2], rfl, rfl, ⟨[.string x.f1], [.int .i64 x.f2], rfl, rfl, rfl⟩⟩
theorem k28_mkM (w : World) (base : Nat) (ok : Nat → Prop) (x : S28)  : k28.M w base ok x [.int .i64 x.f0, .string x.f1, .int .i64 x.f2] := ⟨[.int .i64 x.f0], [.string x.f1, .int .i64 x.f2], rfl, rfl, ⟨[.string x.f1], [.int .i64 x.f2], rfl, rfl, rfl⟩⟩
def rd_T28 (xs : List S28) (i : Int) : S28 := xs.getD i.toNat z28
theorem at_T28 {w : World} {A : Option Addr} {n : Nat} {xs : List S28} (h : Kd.C k28 w A n xs) (i : Int) (h0 : 0 ≤ i) (h1 : i < n) : ∃ ad , A = some ad ∧ w.cell? (ad.add (i.toNat * 3)) = some (.int .i64 (rd_T28 xs i).f0) ∧ w.cell? ⟨(ad.add (i.toNat * 3)).block, (ad.add (i.toNat * 3)).off + 1, none⟩ = some (.string (rd_T28 xs i).f1) ∧ w.cell? ⟨(ad.add (i.toNat * 3)).block, (ad.add (i.toNat * 3)).off + 2, none⟩ = some (.int .i64 (rd_T28 xs i).f2) := by
  obtain ⟨ad, c, e, _, hK, hc0⟩ := Kd.C_get h z28 i h0 h1
  have hc : ∀ j u, c[j]? = some u → w.cell? (ad.add (i.toNat * 3 + j)) = some u := hc0
  obtain rfl := k28_open hK
  exact ⟨ad, e, hc 0 _ rfl, by rw [← add_field _ _ 1 (by omega)]; exact hc 1 _ rfl, by rw [← add_field _ _ 2 (by omega)]; exact hc 2 _ rfl⟩

/-! #### struct type 33 -/
structure S33 where
  f0 : Int
  f1 : Bool
  f2 : Int
  f3 : Int
  f4 : ByteArray
def z33 : S33 := ⟨(0 : Int), false, (0 : Int), (0 : Int), (⟨#[]⟩ : ByteArray)⟩
def k33 : Kd S33 := Kd.iso (Kd.pair (Kd.int .i64) (Kd.pair Kd.bool (Kd.pair (Kd.int .i64) (Kd.pair (Kd.int .u64) Kd.string)))) (fun x : S33 => (x.f0, x.f1, x.f2, x.f3, x.f4))
theorem k33_open {w : World} {x : S33} {cs : List Value} (h : k33.K w x cs) : cs = [.int .i64 x.f0, .bool x.f1, .int .i64 x.f2, .int .u64 x.f3, .string x.f4] := by
  obtain ⟨_, _, rfl, rfl, ⟨_, _, rfl, rfl, ⟨_, _, rfl, rfl, ⟨_, _, rfl, rfl, rfl⟩⟩⟩⟩ := h
  exact rfl
theorem k33_openM {w : World} {base : Nat} {ok : Nat → Prop} {x : S33} {cs : List Value} (h : k33.M w base ok x cs) : cs = [.int .i64 x.f0, .bool x.f1, .int .i64 x.f2, .int .u64 x.f3, .string x.f4] := by
  obtain ⟨_, _, rfl, rfl, ⟨_, _, rfl, rfl, ⟨_, _, rfl, rfl, ⟨_, _, rfl, rfl, rfl⟩⟩⟩⟩ := h
  exact rfl
theorem k33_mk (w : World) (x : S33)  : k33.K w x [.int .i64 x.f0, .bool x.f1, .int .i64 x.f2, .int .u64 x.f3, .string x.f4] := ⟨[.int .i64 x.f0], [.bool x.f1, .int .i64 x.f2, .int .u64 x.f3, .string x.f4], rfl, rfl, ⟨[.bool x.f1], [.int .i64 x.f2, .int .u64 x.f3, .string x.f4], rfl, rfl, ⟨[.int .i64 x.f2], [.int .u64 x.f3, .string x.f4], rfl, rfl, ⟨[.int .u64 x.f3], [.string x.f4], rfl, rfl, rfl⟩⟩⟩⟩
theorem k33_mkM (w : World) (base : Nat) (ok : Nat → Prop) (x : S33)  : k33.M w base ok x [.int .i64 x.f0, .bool x.f1, .int .i64 x.f2, .int .u64 x.f3, .string x.f4] := ⟨[.int .i64 x.f0], [.bool x.f1, .int .i64 x.f2, .int .u64 x.f3, .string x.f4], rfl, rfl, ⟨[.bool x.f1], [.int .i64 x.f2, .int .u64 x.f3, .string x.f4], rfl, rfl, ⟨[.int .i64 x.f2], [.int .u64 x.f3, .string x.f4], rfl, rfl, ⟨[.int .u64 x.f3], [.string x.f4], rfl, rfl, rfl⟩⟩⟩⟩
def rd_T33 (xs : List S33) (i : Int) : S33 := xs.getD i.toNat z33
theorem at_T33 {w : World} {A : Option Addr} {n : Nat} {xs : List S33} (h : Kd.C k33 w A n xs) (i : Int) (h0 : 0 ≤ i) (h1 : i < n) : ∃ ad , A = some ad ∧ w.cell? (ad.add (i.toNat * 5)) = some (.int .i64 (rd_T33 xs i).f0) ∧ w.cell? ⟨(ad.add (i.toNat * 5)).block, (ad.add (i.toNat * 5)).off + 1, none⟩ = some (.bool (rd_T33 xs i).f1) ∧ w.cell? ⟨(ad.add (i.toNat * 5)).block, (ad.add (i.toNat * 5)).off + 2, none⟩ = some (.int .i64 (rd_T33 xs i).f2) ∧ w.cell? ⟨(ad.add (i.toNat * 5)).block, (ad.add (i.toNat * 5)).off + 3, none⟩ = some (.int .u64 (rd_T33 xs i).f3) ∧ w.cell? ⟨(ad.add (i.toNat * 5)).block, (ad.add (i.toNat * 5)).off + 4, none⟩ = some (.string (rd_T33 xs i).f4) := by
  obtain ⟨ad, c, e, _, hK, hc0⟩ := Kd.C_get h z33 i h0 h1
  have hc : ∀ j u, c[j]? = some u → w.cell? (ad.add (i.toNat * 5 + j)) = some u := hc0
  obtain rfl := k33_open hK
  exact ⟨ad, e, hc 0 _ rfl, by rw [← add_field _ _ 1 (by omega)]; exact hc 1 _ rfl, by rw [← add_field _ _ 2 (by omega)]; exact hc 2 _ rfl, by rw [← add_field _ _ 3 (by omega)]; exact hc 3 _ rfl, by rw [← add_field _ _ 4 (by omega)]; exact hc 4 _ rfl⟩

/-! #### struct type 87 -/
structure S87 where
  f0 : ByteArray
  f1 : S33
def z87 : S87 := ⟨(⟨#[]⟩ : ByteArray), z33⟩
def k87 : Kd S87 := Kd.iso (Kd.pair Kd.string k33) (fun x : S87 => (x.f0, x.f1))
theorem k87_open {w : World} {x : S87} {cs : List Value} (h : k87.K w x cs) : cs = [.string x.f0, .int .i64 x.f1.f0, .bool x.f1.f1, .int .i64 x.f1.f2, .int .u64 x.f1.f3, .string x.f1.f4] := by
  obtain ⟨_, _, rfl, rfl, s1⟩ := h
  obtain rfl := k33_open s1
  exact rfl
theorem k87_openM {w : World} {base : Nat} {ok : Nat → Prop} {x : S87} {cs : List Value} (h : k87.M w base ok x cs) : cs = [.string x.f0, .int .i64 x.f1.f0, .bool x.f1.f1, .int .i64 x.f1.f2, .int .u64 x.f1.f3, .string x.f1.f4] := by
  obtain ⟨_, _, rfl, rfl, s1⟩ := h
  obtain rfl := k33_openM s1
  exact rfl
theorem k87_mk (w : World) (x : S87)  : k87.K w x [.string x.f0, .int .i64 x.f1.f0, .bool x.f1.f1, .int .i64 x.f1.f2, .int .u64 x.f1.f3, .string x.f1.f4] := ⟨[.string x.f0], [.int .i64 x.f1.f0, .bool x.f1.f1, .int .i64 x.f1.f2, .int .u64 x.f1.f3, .string x.f1.f4], rfl, rfl, (k33_mk w x.f1 )⟩
theorem k87_mkM (w : World) (base : Nat) (ok : Nat → Prop) (x : S87)  : k87.M w base ok x [.string x.f0, .int .i64 x.f1.f0, .bool x.f1.f1, .int .i64 x.f1.f2, .int .u64 x.f1.f3, .string x.f1.f4] := ⟨[.string x.f0], [.int .i64 x.f1.f0, .bool x.f1.f1, .int .i64 x.f1.f2, .int .u64 x.f1.f3, .string x.f1.f4], rfl, rfl, (k33_mkM w base ok x.f1 )⟩
def rd_T87 (xs : List S87) (i : Int) : S87 := xs.getD i.toNat z87
theorem at_T87 {w : World} {A : Option Addr} {n : Nat} {xs : List S87} (h : Kd.C k87 w A n xs) (i : Int) (h0 : 0 ≤ i) (h1 : i < n) : ∃ ad , A = some ad ∧ w.cell? (ad.add (i.toNat * 6)) = some (.string (rd_T87 xs i).f0) ∧ w.cell? ⟨(ad.add (i.toNat * 6)).block, (ad.add (i.toNat * 6)).off + 1, none⟩ = some (.int .i64 (rd_T87 xs i).f1.f0) ∧ w.cell? ⟨(ad.add (i.toNat * 6)).block, (ad.add (i.toNat * 6)).off + 2, none⟩ = some (.bool (rd_T87 xs i).f1.f1) ∧ w.cell? ⟨(ad.add (i.toNat * 6)).block, (ad.add (i.toNat * 6)).off + 3, none⟩ = some (.int .i64 (rd_T87 xs i).f1.f2) ∧ w.cell? ⟨(ad.add (i.toNat * 6)).block, (ad.add (i.toNat * 6)).off + 4, none⟩ = some (.int .u64 (rd_T87 xs i).f1.f3) ∧ w.cell? ⟨(ad.add (i.toNat * 6)).block, (ad.add (i.toNat * 6)).off + 5, none⟩ = some (.string (rd_T87 xs i).f1.f4) := by
  obtain ⟨ad, c, e, _, hK, hc0⟩ := Kd.C_get h z87 i h0 h1
  have hc : ∀ j u, c[j]? = some u → w.cell? (ad.add (i.toNat * 6 + j)) = some u := hc0
  obtain rfl := k87_open hK
  exact ⟨ad, e, hc 0 _ rfl, by rw [← add_field _ _ 1 (by omega)]; exact hc 1 _ rfl, by rw [← add_field _ _ 2 (by omega)]; exact hc 2 _ rfl, by rw [← add_field _ _ 3 (by omega)]; exact hc 3 _ rfl, by rw [← add_field _ _ 4 (by omega)]; exact hc 4 _ rfl, by rw [← add_field _ _ 5 (by omega)]; exact hc 5 _ rfl⟩

def rd_L7 (xs : List (List S87)) (i : Int) : (List S87) := xs.getD i.toNat ([] : List S87)
theorem at_L7 {w : World} {A : Option Addr} {n : Nat} {xs : List (List S87)} (h : Kd.C (Kd.slice 87 k87) w A n xs) (i : Int) (h0 : 0 ≤ i) (h1 : i < n) : ∃ ad A0 c0, A = some ad ∧ w.cell? (ad.add i.toNat) = some (.slice A0 (rd_L7 xs i).length c0) ∧ (rd_L7 xs i).length ≤ c0 ∧ k87.C w A0 (rd_L7 xs i).length (rd_L7 xs i) := by
  obtain ⟨ad, c, e, _, hK, hc0⟩ := Kd.C_get h ([] : List S87) i h0 h1
  have hc : ∀ j u, c[j]? = some u → w.cell? (ad.add (i.toNat * 1 + j)) = some u := hc0
  obtain ⟨A0, c0, rfl, l0, g0⟩ := hK
  exact ⟨ad, A0, c0, e, by have hq := hc 0 _ rfl; rwa [Nat.mul_one, Nat.add_zero] at hq, l0, g0⟩

/-! #### struct type 42 -/
structure S42 where
  f0 : ByteArray
  f1 : Int
  f2 : (List S87)
def z42 : S42 := ⟨(⟨#[]⟩ : ByteArray), (0 : Int), ([] : List S87)⟩
def k42 : Kd S42 := Kd.iso (Kd.pair Kd.string (Kd.pair (Kd.int .i64) (Kd.slice 87 k87))) (fun x : S42 => (x.f0, x.f1, x.f2))
theorem k42_open {w : World} {x : S42} {cs : List Value} (h : k42.K w x cs) : ∃ A2 c2, cs = [.string x.f0, .int .i64 x.f1, .slice A2 x.f2.length c2] ∧ x.f2.length ≤ c2 ∧ k87.C w A2 x.f2.length x.f2 := by
  obtain ⟨_, _, rfl, rfl, ⟨_, _, rfl, rfl, ⟨A2, c2, rfl, l2, g2⟩⟩⟩ := h
  exact ⟨A2, c2, rfl, l2, g2⟩
theorem k42_openM {w : World} {base : Nat} {ok : Nat → Prop} {x : S42} {cs : List Value} (h : k42.M w base ok x cs) : ∃ v2, cs = [.string x.f0, .int .i64 x.f1, v2] ∧ k87.R 87 w base ok v2 x.f2 := by
  obtain ⟨_, _, rfl, rfl, ⟨_, _, rfl, rfl, ⟨v2, rfl, g2⟩⟩⟩ := h
  exact ⟨v2, rfl, g2⟩
theorem k42_mk (w : World) (x : S42) {A2 : Option Addr} {c2 : Nat} (l2 : x.f2.length ≤ c2) (g2 : k87.C w A2 x.f2.length x.f2) : k42.K w x [.string x.f0, .int .i64 x.f1, .slice A2 x.f2.length c2] := ⟨[.string x.f0], [.int .i64 x.f1, .slice A2 x.f2.length c2], rfl, rfl, ⟨[.int .i64 x.f1], [.slice A2 x.f2.length c2], rfl, rfl, ⟨A2, c2, rfl, l2, g2⟩⟩⟩
theorem k42_mkM (w : World) (base : Nat) (ok : Nat → Prop) (x : S42) {v2 : Value} (g2 : k87.R 87 w base ok v2 x.f2) : k42.M w base ok x [.string x.f0, .int .i64 x.f1, v2] := ⟨[.string x.f0], [.int .i64 x.f1, v2], rfl, rfl, ⟨[.int .i64 x.f1], [v2], rfl, rfl, ⟨v2, rfl, g2⟩⟩⟩
def rd_T42 (xs : List S42) (i : Int) : S42 := xs.getD i.toNat z42
theorem at_T42 {w : World} {A : Option Addr} {n : Nat} {xs : List S42} (h : Kd.C k42 w A n xs) (i : Int) (h0 : 0 ≤ i) (h1 : i < n) : ∃ ad A2 c2, A = some ad ∧ w.cell? (ad.add (i.toNat * 3)) = some (.string (rd_T42 xs i).f0) ∧ w.cell? ⟨(ad.add (i.toNat * 3)).block, (ad.add (i.toNat * 3)).off + 1, none⟩ = some (.int .i64 (rd_T42 xs i).f1) ∧ w.cell? ⟨(ad.add (i.toNat * 3)).block, (ad.add (i.toNat * 3)).off + 2, none⟩ = some (.slice A2 (rd_T42 xs i).f2.length c2) ∧ (rd_T42 xs i).f2.length ≤ c2 ∧ k87.C w A2 (rd_T42 xs i).f2.length (rd_T42 xs i).f2 := by
  obtain ⟨ad, c, e, _, hK, hc0⟩ := Kd.C_get h z42 i h0 h1
  have hc : ∀ j u, c[j]? = some u → w.cell? (ad.add (i.toNat * 3 + j)) = some u := hc0
  obtain ⟨A2, c2, rfl, l2, g2⟩ := k42_open hK
  exact ⟨ad, A2, c2, e, hc 0 _ rfl, by rw [← add_field _ _ 1 (by omega)]; exact hc 1 _ rfl, by rw [← add_field _ _ 2 (by omega)]; exact hc 2 _ rfl, l2, g2⟩

def rd_L9 (xs : List (List ByteArray)) (i : Int) : (List ByteArray) := xs.getD i.toNat ([] : List ByteArray)
theorem at_L9 {w : World} {A : Option Addr} {n : Nat} {xs : List (List ByteArray)} (h : Kd.C (Kd.slice 9 Kd.string) w A n xs) (i : Int) (h0 : 0 ≤ i) (h1 : i < n) : ∃ ad A0 c0, A = some ad ∧ w.cell? (ad.add i.toNat) = some (.slice A0 (rd_L9 xs i).length c0) ∧ (rd_L9 xs i).length ≤ c0 ∧ Kd.string.C w A0 (rd_L9 xs i).length (rd_L9 xs i) := by
  obtain ⟨ad, c, e, _, hK, hc0⟩ := Kd.C_get h ([] : List ByteArray) i h0 h1
  have hc : ∀ j u, c[j]? = some u → w.cell? (ad.add (i.toNat * 1 + j)) = some u := hc0
  obtain ⟨A0, c0, rfl, l0, g0⟩ := hK
  exact ⟨ad, A0, c0, e, by have hq := hc 0 _ rfl; rwa [Nat.mul_one, Nat.add_zero] at hq, l0, g0⟩

/-! #### struct type 45 -/
structure S45 where
  f0 : Int
  f1 : S42
  f2 : ByteArray
  f3 : ByteArray
  f4 : (List ByteArray)
  f5 : ByteArray
  f6 : Int
  f7 : Int
  f8 : Int
  f9 : Int
def z45 : S45 := ⟨(0 : Int), z42, (⟨#[]⟩ : ByteArray), (⟨#[]⟩ : ByteArray), ([] : List ByteArray), (⟨#[]⟩ : ByteArray), (0 : Int), (0 : Int), (0 : Int), (0 : Int)⟩
def k45 : Kd S45 := Kd.iso (Kd.pair (Kd.int .i64) (Kd.pair k42 (Kd.pair Kd.string (Kd.pair Kd.string (Kd.pair (Kd.slice 9 Kd.string) (Kd.pair Kd.string (Kd.pair (Kd.int .i64) (Kd.pair (Kd.int .i64) (Kd.pair (Kd.int .u64) (Kd.int .i64)))))))))) (fun x : S45 => (x.f0, x.f1, x.f2, x.f3, x.f4, x.f5, x.f6, x.f7, x.f8, x.f9))
theorem k45_open {w : World} {x : S45} {cs : List Value} (h : k45.K w x cs) : ∃ A3 c3 A6 c6, cs = [.int .i64 x.f0, .string x.f1.f0, .int .i64 x.f1.f1, .slice A3 x.f1.f2.length c3, .string x.f2, .string x.f3, .slice A6 x.f4.length c6, .string x.f5, .int .i64 x.f6, .int .i64 x.f7, .int .u64 x.f8, .int .i64 x.f9] ∧ x.f1.f2.length ≤ c3 ∧ k87.C w A3 x.f1.f2.length x.f1.f2 ∧ x.f4.length ≤ c6 ∧ Kd.string.C w A6 x.f4.length x.f4 := by
  obtain ⟨_, _, rfl, rfl, ⟨_, _, rfl, s1, ⟨_, _, rfl, rfl, ⟨_, _, rfl, rfl, ⟨_, _, rfl, ⟨A6, c6, rfl, l6, g6⟩, ⟨_, _, rfl, rfl, ⟨_, _, rfl, rfl, ⟨_, _, rfl, rfl, ⟨_, _, rfl, rfl, rfl⟩⟩⟩⟩⟩⟩⟩⟩⟩ := h
  obtain ⟨A3, c3, rfl, l3, g3⟩ := k42_open s1
  exact ⟨A3, c3, A6, c6, rfl, l3, g3, l6, g6⟩
theorem k45_openM {w : World} {base : Nat} {ok : Nat → Prop} {x : S45} {cs : List Value} (h : k45.M w base ok x cs) : ∃ v3 v6, cs = [.int .i64 x.f0, .string x.f1.f0, .int .i64 x.f1.f1, v3, .string x.f2, .string x.f3, v6, .string x.f5, .int .i64 x.f6, .int .i64 x.f7, .int .u64 x.f8, .int .i64 x.f9] ∧ k87.R 87 w base ok v3 x.f1.f2 ∧ Kd.string.R 9 w base ok v6 x.f4 := by
  obtain ⟨_, _, rfl, rfl, ⟨_, _, rfl, s1, ⟨_, _, rfl, rfl, ⟨_, _, rfl, rfl, ⟨_, _, rfl, ⟨v6, rfl, g6⟩, ⟨_, _, rfl, rfl, ⟨_, _, rfl, rfl, ⟨_, _, rfl, rfl, ⟨_, _, rfl, rfl, rfl⟩⟩⟩⟩⟩⟩⟩⟩⟩ := h
  obtain ⟨v3, rfl, g3⟩ := k42_openM s1
  exact ⟨v3, v6, rfl, g3, g6⟩
theorem k45_mk (w : World) (x : S45) {A3 : Option Addr} {c3 : Nat} (l3 : x.f1.f2.length ≤ c3) (g3 : k87.C w A3 x.f1.f2.length x.f1.f2) {A6 : Option Addr} {c6 : Nat} (l6 : x.f4.length ≤ c6) (g6 : Kd.string.C w A6 x.f4.length x.f4) : k45.K w x [.int .i64 x.f0, .string x.f1.f0, .int .i64 x.f1.f1, .slice A3 x.f1.f2.length c3, .string x.f2, .string x.f3, .slice A6 x.f4.length c6, .string x.f5, .int .i64 x.f6, .int .i64 x.f7, .int .u64 x.f8, .int .i64 x.f9] := ⟨[.int .i64 x.f0], [.string x.f1.f0, .int .i64 x.f1.f1, .slice A3 x.f1.f2.length c3, .string x.f2, .string x.f3, .slice A6 x.f4.length c6, .string x.f5, .int .i64 x.f6, .int .i64 x.f7, .int .u64 x.f8, .int .i64 x.f9], rfl, rfl, ⟨[.string x.f1.f0, .int .i64 x.f1.f1, .slice A3 x.f1.f2.length c3], [.string x.f2, .string x.f3, .slice A6 x.f4.length c6, .string x.f5, .int .i64 x.f6, .int .i64 x.f7, .int .u64 x.f8, .int .i64 x.f9], rfl, (k42_mk w x.f1 l3 g3), ⟨[.string x.f2], [.string x.f3, .slice A6 x.f4.length c6, .string x.f5, .int .i64 x.f6, .int .i64 x.f7, .int .u64 x.f8, .int .i64 x.f9], rfl, rfl, ⟨[.string x.f3], [.slice A6 x.f4.length c6, .string x.f5, .int .i64 x.f6, .int .i64 x.f7, .int .u64 x.f8, .int .i64 x.f9], rfl, rfl, ⟨[.slice A6 x.f4.length c6], [.string x.f5, .int .i64 x.f6, .int .i64 x.f7, .int .u64 x.f8, .int .i64 x.f9], rfl, ⟨A6, c6, rfl, l6, g6⟩, ⟨[.string x.f5], [.int .i64 x.f6, .int .i64 x.f7, .int .u64 x.f8, .int .i64 x.f9], rfl, rfl, ⟨[.int .i64 x.f6], [.int .i64 x.f7, .int .u64 x.f8, .int .i64 x.f9], rfl, rfl, ⟨[.int .i64 x.f7], [.int .u64 x.f8, .int .i64 x.f9], rfl, rfl, ⟨[.int .u64 x.f8], [.int .i64 x.f9], rfl, rfl, rfl⟩⟩⟩⟩⟩⟩⟩⟩⟩
theorem k45_mkM (w : World) (base : Nat) (ok : Nat → Prop) (x : S45) {v3 : Value} (g3 : k87.R 87 w base ok v3 x.f1.f2) {v6 : Value} (g6 : Kd.string.R 9 w base ok v6 x.f4) : k45.M w base ok x [.int .i64 x.f0, .string x.f1.f0, .int .i64 x.f1.f1, v3, .string x.f2, .string x.f3, v6, .string x.f5, .int .i64 x.f6, .int .i64 x.f7, .int .u64 x.f8, .int .i64 x.f9] := ⟨[.int .i64 x.f0], [.string x.f1.f0, .int .i64 x.f1.f1, v3, .string x.f2, .string x.f3, v6, .string x.f5, .int .i64 x.f6, .int .i64 x.f7, .int .u64 x.f8, .int .i64 x.f9], rfl, rfl, ⟨[.string x.f1.f0, .int .i64 x.f1.f1, v3], [.string x.f2, .string x.f3, v6, .string x.f5, .int .i64 x.f6, .int .i64 x.f7, .int .u64 x.f8, .int .i64 x.f9], rfl, (k42_mkM w base ok x.f1 g3), ⟨[.string x.f2], [.string x.f3, v6, .string x.f5, .int .i64 x.f6, .int .i64 x.f7, .int .u64 x.f8, .int .i64 x.f9], rfl, rfl, ⟨[.string x.f3], [v6, .string x.f5, .int .i64 x.f6, .int .i64 x.f7, .int .u64 x.f8, .int .i64 x.f9], rfl, rfl, ⟨[v6], [.string x.f5, .int .i64 x.f6, .int .i64 x.f7, .int .u64 x.f8, .int .i64 x.f9], rfl, ⟨v6, rfl, g6⟩, ⟨[.string x.f5], [.int .i64 x.f6, .int .i64 x.f7, .int .u64 x.f8, .int .i64 x.f9], rfl, rfl, ⟨[.int .i64 x.f6], [.int .i64 x.f7, .int .u64 x.f8, .int .i64 x.f9], rfl, rfl, ⟨[.int .i64 x.f7], [.int .u64 x.f8, .int .i64 x.f9], rfl, rfl, ⟨[.int .u64 x.f8], [.int .i64 x.f9], rfl, rfl, rfl⟩⟩⟩⟩⟩⟩⟩⟩⟩
def rd_T45 (xs : List S45) (i : Int) : S45 := xs.getD i.toNat z45
theorem at_T45 {w : World} {A : Option Addr} {n : Nat} {xs : List S45} (h : Kd.C k45 w A n xs) (i : Int) (h0 : 0 ≤ i) (h1 : i < n) : ∃ ad A3 c3 A6 c6, A = some ad ∧ w.cell? (ad.add (i.toNat * 12)) = some (.int .i64 (rd_T45 xs i).f0) ∧ w.cell? ⟨(ad.add (i.toNat * 12)).block, (ad.add (i.toNat * 12)).off + 1, none⟩ = some (.string (rd_T45 xs i).f1.f0) ∧ w.cell? ⟨(ad.add (i.toNat * 12)).block, (ad.add (i.toNat * 12)).off + 2, none⟩ = some (.int .i64 (rd_T45 xs i).f1.f1) ∧ w.cell? ⟨(ad.add (i.toNat * 12)).block, (ad.add (i.toNat * 12)).off + 3, none⟩ = some (.slice A3 (rd_T45 xs i).f1.f2.length c3) ∧ w.cell? ⟨(ad.add (i.toNat * 12)).block, (ad.add (i.toNat * 12)).off + 4, none⟩ = some (.string (rd_T45 xs i).f2) ∧ w.cell? ⟨(ad.add (i.toNat * 12)).block, (ad.add (i.toNat * 12)).off + 5, none⟩ = some (.string (rd_T45 xs i).f3) ∧ w.cell? ⟨(ad.add (i.toNat * 12)).block, (ad.add (i.toNat * 12)).off + 6, none⟩ = some (.slice A6 (rd_T45 xs i).f4.length c6) ∧ w.cell? ⟨(ad.add (i.toNat * 12)).block, (ad.add (i.toNat * 12)).off + 7, none⟩ = some (.string (rd_T45 xs i).f5) ∧ w.cell? ⟨(ad.add (i.toNat * 12)).block, (ad.add (i.toNat * 12)).off + 8, none⟩ = some (.int .i64 (rd_T45 xs i).f6) ∧ w.cell? ⟨(ad.add (i.toNat * 12)).block, (ad.add (i.toNat * 12)).off + 9, none⟩ = some (.int .i64 (rd_T45 xs i).f7) ∧ w.cell? ⟨(ad.add (i.toNat * 12)).block, (ad.add (i.toNat * 12)).off + 10, none⟩ = some (.int .u64 (rd_T45 xs i).f8) ∧ w.cell? ⟨(ad.add (i.toNat * 12)).block, (ad.add (i.toNat * 12)).off + 11, none⟩ = some (.int .i64 (rd_T45 xs i).f9) ∧ (rd_T45 xs i).f1.f2.length ≤ c3 ∧ k87.C w A3 (rd_T45 xs i).f1.f2.length (rd_T45 xs i).f1.f2 ∧ (rd_T45 xs i).f4.length ≤ c6 ∧ Kd.string.C w A6 (rd_T45 xs i).f4.length (rd_T45 xs i).f4 := by
  obtain ⟨ad, c, e, _, hK, hc0⟩ := Kd.C_get h z45 i h0 h1
  have hc : ∀ j u, c[j]? = some u → w.cell? (ad.add (i.toNat * 12 + j)) = some u := hc0
  obtain ⟨A3, c3, A6, c6, rfl, l3, g3, l6, g6⟩ := k45_open hK
  exact ⟨ad, A3, c3, A6, c6, e, hc 0 _ rfl, by rw [← add_field _ _ 1 (by omega)]; exact hc 1 _ rfl, by rw [← add_field _ _ 2 (by omega)]; exact hc 2 _ rfl, by rw [← add_field _ _ 3 (by omega)]; exact hc 3 _ rfl, by rw [← add_field _ _ 4 (by omega)]; exact hc 4 _ rfl, by rw [← add_field _ _ 5 (by omega)]; exact hc 5 _ rfl, by rw [← add_field _ _ 6 (by omega)]; exact hc 6 _ rfl, by rw [← add_field _ _ 7 (by omega)]; exact hc 7 _ rfl, by rw [← add_field _ _ 8 (by omega)]; exact hc 8 _ rfl, by rw [← add_field _ _ 9 (by omega)]; exact hc 9 _ rfl, by rw [← add_field _ _ 10 (by omega)]; exact hc 10 _ rfl, by rw [← add_field _ _ 11 (by omega)]; exact hc 11 _ rfl, l3, g3, l6, g6⟩

end Go.Proofs.Ytokkjnfdfbpphaa.A
namespace Go.Proofs.Ytokkjnfdfbpphaa.A
open Go.RowKit Go.Proofs.YtokkjnfdfbpphaaW.PrintWords Go.Proofs.YtokkjnfdfbpphaaW.PrintLast Go.Proofs.YtokkjnfdfbpphaaW.PrintMore
attribute [local go_sem] max2_int min2_int max_two min_two max_three min_three max_four min_four   -- for this text's walks alone
set_option linter.unusedVariables false
set_option linter.unusedSimpArgs false

def isLetter (c : UInt8) : Bool := (97 ≤ c && c ≤ 122) || (65 ≤ c && c ≤ 90) || c == 95
def isDigit (c : UInt8) : Bool := 48 ≤ c && c ≤ 57
def isPlain (c : UInt8) : Bool := 32 ≤ c && c < 127 && c != 34 && c != 92
def notBreak (c : UInt8) : Bool := c != 10
def isWord (c : UInt8) : Bool := isLetter c || isDigit c

/-- Where the bytes from k on end for which p holds. -/
def runTo (p : UInt8 → Bool) (s : ByteArray) (k : Nat) : Nat := k + ((s.data.toList.drop k).takeWhile p).length

theorem drop_cons (s : ByteArray) (k : Nat) (h : k < s.size) : s.data.toList.drop k = s[k] :: s.data.toList.drop (k + 1) := by
  rw [List.drop_eq_getElem_cons (by simpa using h)]; rfl
theorem runTo_end (p : UInt8 → Bool) (s : ByteArray) (k : Nat) (h : s.size ≤ k) : runTo p s k = k := by
  unfold runTo; rw [List.drop_of_length_le (by simpa using h)]; rfl
theorem runTo_stop (p : UInt8 → Bool) (s : ByteArray) (k : Nat) (h : k < s.size) (hp : p s[k] = false) : runTo p s k = k := by
  unfold runTo; rw [drop_cons s k h]; simp [List.takeWhile, hp]
theorem runTo_step (p : UInt8 → Bool) (s : ByteArray) (k : Nat) (h : k < s.size) (hp : p s[k] = true) : runTo p s (k + 1) = runTo p s k := by
  unfold runTo; rw [drop_cons s k h]; simp [List.takeWhile, hp]; omega
theorem takeWhile_le {α : Type} (p : α → Bool) (l : List α) : (l.takeWhile p).length ≤ l.length := (List.takeWhile_sublist p).length_le
theorem runTo_le (p : UInt8 → Bool) (s : ByteArray) (k : Nat) (h : k ≤ s.size) : k ≤ runTo p s k ∧ runTo p s k ≤ s.size := by
  unfold runTo
  have := takeWhile_le p (s.data.toList.drop k)
  simp only [List.length_drop, Array.length_toList] at this
  have : s.data.size = s.size := rfl
  omega

/-- How many bytes are blanks, breaks and remarks (true: within a remark). -/
def blankLen : Bool → List UInt8 → Nat
  | _, [] => 0
  | false, c :: t => if c == 32 || c == 10 || c == 9 then blankLen false t + 1 else if c == 35 then blankLen true t + 1 else 0
  | true, c :: t => if c == 10 then blankLen false t + 1 else blankLen true t + 1
def blanksTo (s : ByteArray) (k : Nat) : Nat := k + blankLen false (s.data.toList.drop k)
theorem blankLen_le : ∀ (l : List UInt8) (b : Bool), blankLen b l ≤ l.length
  | [], b => by cases b <;> simp [blankLen]
  | c :: t, false => by
    have := blankLen_le t false; have := blankLen_le t true
    simp only [blankLen, List.length_cons]; repeat' split
    all_goals omega
  | c :: t, true => by
    have := blankLen_le t false; have := blankLen_le t true
    simp only [blankLen, List.length_cons]; split <;> omega
theorem blanksTo_le (s : ByteArray) (k : Nat) (h : k ≤ s.size) : k ≤ blanksTo s k ∧ blanksTo s k ≤ s.size := by
  unfold blanksTo
  have := blankLen_le (s.data.toList.drop k) false
  simp only [List.length_drop, Array.length_toList] at this
  have : s.data.size = s.size := rfl
  omega
theorem blankLen_remark : ∀ l : List UInt8, blankLen true l = (l.takeWhile notBreak).length + blankLen false (l.dropWhile notBreak)
  | [] => by simp [blankLen]
  | c :: t => by
    have ih := blankLen_remark t
    by_cases h : c = 10
    · subst h; simp [blankLen, notBreak, List.takeWhile, List.dropWhile]
    · have h2 : notBreak c = true := by simp [notBreak, h]
      simp [blankLen, List.takeWhile, List.dropWhile, h, h2, ih]; omega
theorem drop_takeWhile_length {α : Type} (p : α → Bool) (l : List α) : l.drop (l.takeWhile p).length = l.dropWhile p := by
  induction l with
  | nil => rfl
  | cons a t ih => simp only [List.takeWhile, List.dropWhile]; cases p a <;> simp [ih]
theorem blanksTo_end (s : ByteArray) (k : Nat) (h : s.size ≤ k) : blanksTo s k = k := by
  unfold blanksTo; rw [List.drop_of_length_le (by simpa using h)]; rfl
theorem blanksTo_blank (s : ByteArray) (k : Nat) (h : k < s.size) (hc : (s[k] == 32 || s[k] == 10 || s[k] == 9) = true) : blanksTo s (k + 1) = blanksTo s k := by
  unfold blanksTo; rw [drop_cons s k h]; simp only [blankLen]; rw [if_pos hc]; omega
theorem blanksTo_stop (s : ByteArray) (k : Nat) (h : k < s.size) (hc : (s[k] == 32 || s[k] == 10 || s[k] == 9) = false) (h2 : (s[k] == 35) = false) : blanksTo s k = k := by
  unfold blanksTo; rw [drop_cons s k h]; simp only [blankLen]; rw [if_neg (by simp [hc]), if_neg (by simp [h2])]; rfl
theorem blanksTo_remark (s : ByteArray) (k : Nat) (h : k < s.size) (h2 : (s[k] == 35) = true) : blanksTo s (runTo notBreak s k) = blanksTo s k := by
  have h3 : s[k] = 35 := by simpa using h2
  unfold blanksTo runTo
  rw [← List.drop_drop, drop_takeWhile_length, drop_cons s k h, h3]
  have hb : notBreak 35 = true := by decide
  simp only [blankLen, List.takeWhile, List.dropWhile, hb, List.length_cons]
  rw [if_neg (by decide), if_pos (by decide), blankLen_remark]; omega
theorem runTo_lt (p : UInt8 → Bool) (s : ByteArray) (k : Nat) (h : k < s.size) (hp : p s[k] = true) : k < runTo p s k := by
  rw [← runTo_step p s k h hp]; have := (runTo_le p s (k + 1) h).1; omega
theorem u8_eq (c : UInt8) (n : Nat) (h : n < 256) : (c == UInt8.ofNat n) = decide ((c.toNat : Int) = n) := by
  rw [Bool.eq_iff_iff]; simp [← UInt8.toNat_inj]
  rw [Nat.mod_eq_of_lt h]; omega
theorem blanksTo_blank' (s : ByteArray) (k : Nat) (h : k < s.size) (hc : (s[k].toNat : Int) = 32 ∨ (s[k].toNat : Int) = 10 ∨ (s[k].toNat : Int) = 9) : blanksTo s (k + 1) = blanksTo s k := by
  refine blanksTo_blank s k h ?_
  have := u8_eq s[k] 32 (by omega); have := u8_eq s[k] 10 (by omega); have := u8_eq s[k] 9 (by omega)
  simp_all; omega

/-! quotes -/
def hexDigit (n : Nat) : UInt8 := if n < 10 then UInt8.ofNat (48 + n) else UInt8.ofNat (87 + n)
def quoteByte (c : UInt8) : List UInt8 := if isPlain c then [c] else [92, 120, hexDigit (c.toNat / 16), hexDigit (c.toNat % 16)]
def quoteBody (l : List UInt8) : List UInt8 := l.flatMap quoteByte
def quoted (l : List UInt8) : List UInt8 := 34 :: (quoteBody l ++ [34])
theorem quoteByte_le (c : UInt8) : (quoteByte c).length ≤ 4 := by unfold quoteByte; split <;> simp
theorem quoteBody_le (l : List UInt8) : (quoteBody l).length ≤ 4 * l.length := by
  induction l with
  | nil => simp [quoteBody]
  | cons c t ih => have := quoteByte_le c; simp only [quoteBody, List.flatMap_cons, List.length_append, List.length_cons] at *; omega
theorem take_snoc (s : ByteArray) (k : Nat) (h : k < s.size) : s.data.toList.take (k + 1) = s.data.toList.take k ++ [s[k]] := by
  rw [List.take_succ_eq_append_getElem (by simpa using h)]; rfl
theorem quoteBody_snoc (l : List UInt8) (c : UInt8) : quoteBody (l ++ [c]) = quoteBody l ++ quoteByte c := by simp [quoteBody]
theorem hexIdx (n : Nat) (h : n < 16) : (⟨#[48, 49, 50, 51, 52, 53, 54, 55, 56, 57, 97, 98, 99, 100, 101, 102]⟩ : ByteArray)[n]'h = hexDigit n := by
  have key : ∀ m : Fin 16, (⟨#[48, 49, 50, 51, 52, 53, 54, 55, 56, 57, 97, 98, 99, 100, 101, 102]⟩ : ByteArray)[m.1]'m.2 = hexDigit m.1 := by decide
  exact key ⟨n, h⟩

/-- A sign's worth as a hexadecimal digit; -1: it is none. -/
def hexVal (c : UInt8) : Int := if 48 ≤ c.toNat ∧ c.toNat ≤ 57 then (c.toNat : Int) - 48 else if 97 ≤ c.toNat ∧ c.toNat ≤ 102 then (c.toNat : Int) - 87 else -1
def hexSigns : List UInt8 := [48, 49, 50, 51, 52, 53, 54, 55, 56, 57, 97, 98, 99, 100, 101, 102]
theorem u8_all {p : UInt8 → Prop} (h : ∀ n : Fin 256, p (UInt8.ofNat n.1)) (c : UInt8) : p c := by
  have := h ⟨c.toNat, c.toNat_lt⟩
  simpa using this
theorem indexByte_hex (c : UInt8) : Lib.indexByte hexSigns c = hexVal c := by
  refine u8_all (p := fun c => Lib.indexByte hexSigns c = hexVal c) ?_ c
  decide +kernel
theorem hexVal_lt (c : UInt8) : -1 ≤ hexVal c ∧ hexVal c ≤ 15 := by
  unfold hexVal; repeat' split
  all_goals omega
/-- The byte that two signs behind a backslash and an x are. -/
def escapeVal : List UInt8 → Option UInt8
  | a :: b :: _ => if 0 ≤ hexVal a ∧ 0 ≤ hexVal b then some (UInt8.ofNat (16 * (hexVal a).toNat + (hexVal b).toNat)) else none
  | _ => none

/-- What stands behind an opening quote: the text, and how many bytes it takes with the closing quote. -/
def unq : List UInt8 → Option (List UInt8 × Nat)
  | [] => none
  | c :: t =>
    if c == 34 then some ([], 1)
    else if c == 92 then
      match t with
      | x :: a :: b :: t' =>
        if x == 120 then
          match escapeVal [a, b] with
          | some v => if isPlain v then none else (unq t').map fun p => (v :: p.1, p.2 + 4)
          | none => none
        else none
      | _ => none
    else if isPlain c then (unq t).map fun p => (c :: p.1, p.2 + 1) else none
def unqAt (s : ByteArray) (i : Nat) : Option (List UInt8 × Nat) := (unq (s.data.toList.drop i)).map fun p => (p.1, i + p.2)
theorem unq_cons (c : UInt8) (t : List UInt8) : unq (c :: t) =
    if c == 34 then some ([], 1)
    else if c == 92 then
      match t with
      | x :: a :: b :: t' =>
        if x == 120 then
          match escapeVal [a, b] with
          | some v => if isPlain v then none else (unq t').map fun p => (v :: p.1, p.2 + 4)
          | none => none
        else none
      | _ => none
    else if isPlain c then (unq t).map fun p => (c :: p.1, p.2 + 1) else none := by rw [unq.eq_def]
theorem map_map_eq {α β γ δ : Type} {f : α → β} {g : β → γ} {f' : α → δ} {g' : δ → γ} (o : Option α) (h : ∀ a, g (f a) = g' (f' a)) : (o.map f).map g = (o.map f').map g' := by
  cases o <;> simp [h]
theorem unqAt_end (s : ByteArray) (i : Nat) (h : s.size ≤ i) : unqAt s i = none := by
  unfold unqAt; rw [List.drop_of_length_le (by simpa using h)]; simp [unq]
theorem unqAt_close (s : ByteArray) (i : Nat) (h : i < s.size) (hc : s[i] = 34) : unqAt s i = some ([], i + 1) := by
  unfold unqAt; rw [drop_cons s i h, unq_cons, hc]; simp
theorem unqAt_plain (s : ByteArray) (i : Nat) (h : i < s.size) (hc : s[i] ≠ 34) (h2 : s[i] ≠ 92) (hp : isPlain s[i] = true) :
    unqAt s i = (unqAt s (i + 1)).map fun p => (s[i] :: p.1, p.2) := by
  unfold unqAt; rw [drop_cons s i h, unq_cons, if_neg (by simpa using hc), if_neg (by simpa using h2), if_pos hp]
  refine map_map_eq _ fun a => ?_
  simp only [Prod.mk.injEq]; exact ⟨trivial, by omega⟩
theorem unqAt_odd (s : ByteArray) (i : Nat) (h : i < s.size) (hc : s[i] ≠ 34) (h2 : s[i] ≠ 92) (hp : isPlain s[i] = false) : unqAt s i = none := by
  unfold unqAt; rw [drop_cons s i h, unq_cons, if_neg (by simpa using hc), if_neg (by simpa using h2), if_neg (by simp [hp])]; rfl
theorem unqAt_cut (s : ByteArray) (i : Nat) (h : i < s.size) (h2 : s[i] = 92) (h3 : s.size < i + 4) : unqAt s i = none := by
  have hl : (s.data.toList.drop (i + 1)).length < 3 := by simp [Array.length_toList]; have : s.data.size = s.size := rfl; omega
  unfold unqAt; rw [drop_cons s i h, h2]
  generalize s.data.toList.drop (i + 1) = l at *
  match l, hl with
  | [], _ => rfl
  | [_], _ => rfl
  | [_, _], _ => rfl
theorem unqAt_esc (s : ByteArray) (i : Nat) (h : i + 3 < s.size) (h2 : s[i] = 92) : unqAt s i =
    if s[i + 1] = 120 then (match escapeVal [s[i + 2], s[i + 3]] with
      | some v => if isPlain v then none else (unqAt s (i + 4)).map fun p => (v :: p.1, p.2)
      | none => none) else none := by
  unfold unqAt; rw [drop_cons s i (by omega), drop_cons s (i + 1) (by omega), drop_cons s (i + 2) (by omega), drop_cons s (i + 3) h, unq_cons, h2, if_neg (by decide), if_pos (by decide)]
  by_cases h1 : s[i + 1] = 120
  · simp only [h1, beq_self_eq_true, if_true]
    cases escapeVal [s[i + 2], s[i + 3]] with
    | none => rfl
    | some v =>
      dsimp only
      by_cases hp : isPlain v = true
      · rw [if_pos hp, if_pos hp]; rfl
      · rw [if_neg hp, if_neg hp]
        refine map_map_eq _ fun a => ?_
        simp only [Prod.mk.injEq]; exact ⟨trivial, by omega⟩
  · rw [if_neg h1]; dsimp only; rw [if_neg (by simpa using h1)]; rfl
theorem u8_ne (c d : UInt8) (h : c ≠ d) : ((c.toNat : Int) == (d.toNat : Int)) = false := by
  have : c.toNat ≠ d.toNat := fun e => h (UInt8.toNat_inj.1 e)
  simp; omega
theorem u8_eq' (c d : UInt8) (h : c = d) : ((c.toNat : Int) == (d.toNat : Int)) = true := by rw [h]; simp
theorem u8_bne (c d : UInt8) (h : c ≠ d) : ((c.toNat : Int) != (d.toNat : Int)) = true := by simp [bne, u8_ne c d h]
theorem u8_bneF (c d : UInt8) (h : c = d) : ((c.toNat : Int) != (d.toNat : Int)) = false := by simp [bne, h]
theorem unqAt_no120 (s : ByteArray) (i : Nat) (h : i + 1 < s.size) (h2 : s[i] = 92) (h3 : s[i + 1] ≠ 120) : unqAt s i = none := by
  by_cases h4 : i + 3 < s.size
  · rw [unqAt_esc s i h4 h2, if_neg h3]
  · exact unqAt_cut s i (by omega) h2 (by omega)
theorem extract_get (s : ByteArray) (a j : Nat) (h : a + j < s.size) (hj : j < (s.extract a s.size).size) : (s.extract a s.size)[j] = s[a + j] := by
  simp [ByteArray.getElem_extract]
theorem extract_size (s : ByteArray) (a : Nat) (h : a ≤ s.size) : (s.extract a s.size).size = s.size - a := by simp

/-! tokens -/
def isMark (c : UInt8) : Bool := c == 61 || c == 44 || c == 40 || c == 41 || c == 91 || c == 93 || c == 59
/-- The token that begins at byte j: its kind, its text, where it ends. -/
def tokAt (s : ByteArray) (j : Nat) : Option (Int × List UInt8 × Nat) :=
  match s.data.toList.drop j with
  | [] => none
  | c :: t =>
    if isLetter c then some (0, (c :: t).takeWhile isWord, runTo isWord s j)
    else if isDigit c || c == 45 then
      if c == 45 && (t.takeWhile isDigit).isEmpty then none else some (1, c :: t.takeWhile isDigit, runTo isDigit s (j + 1))
    else if c == 34 then (unqAt s (j + 1)).map fun p => (2, p.1, p.2)
    else if isMark c then some (3, [c], j + 1) else none
theorem indexByte_mark (c : UInt8) : decide (0 ≤ Lib.indexByte [61, 44, 40, 41, 91, 93, 59] c) = isMark c := by
  refine u8_all (p := fun c => decide (0 ≤ Lib.indexByte [61, 44, 40, 41, 91, 93, 59] c) = isMark c) ?_ c
  decide +kernel
theorem extract_run (p : UInt8 → Bool) (s : ByteArray) (k : Nat) : s.extract k (runTo p s k) = ⟨((s.data.toList.drop k).takeWhile p).toArray⟩ := by
  have h : (s.extract k (runTo p s k)).data.toList = (s.data.toList.drop k).takeWhile p := by
    simp only [ByteArray.data_extract, Array.toList_extract, List.extract_eq_take_drop]
    unfold runTo
    rw [show k + ((s.data.toList.drop k).takeWhile p).length - k = ((s.data.toList.drop k).takeWhile p).length by omega]
    exact (List.prefix_iff_eq_take.1 (List.takeWhile_prefix p)).symm
  have h2 : (s.extract k (runTo p s k)).data = ((s.data.toList.drop k).takeWhile p).toArray := by rw [← h]
  cases he : s.extract k (runTo p s k)
  rw [he] at h2
  exact congrArg ByteArray.mk h2
theorem ba_ext {a b : ByteArray} (h : a.data.toList = b.data.toList) : a = b := by
  cases a; cases b; congr 1; exact Array.toList_inj.1 h
theorem extract_list (s : ByteArray) (a b : Nat) : (s.extract a b).data.toList = (s.data.toList.drop a).take (b - a) := by
  simp only [ByteArray.data_extract, Array.toList_extract, List.extract_eq_take_drop]
theorem extract_one (s : ByteArray) (j : Nat) (h : j < s.size) : s.extract j (j + 1) = ⟨[s[j]].toArray⟩ := by
  apply ba_ext
  rw [extract_list, drop_cons s j h, show j + 1 - j = 1 by omega]; rfl
theorem num_text (s : ByteArray) (j : Nat) (h : j < s.size) :
    s.extract j (max (j + 1) (runTo isDigit s (j + 1))) = ⟨(s[j] :: (s.data.toList.drop (j + 1)).takeWhile isDigit).toArray⟩ := by
  have hr := (runTo_le isDigit s (j + 1) (by omega)).1
  rw [Nat.max_eq_right hr]
  apply ba_ext
  rw [extract_list, drop_cons s j h]
  have e : runTo isDigit s (j + 1) - j = ((s.data.toList.drop (j + 1)).takeWhile isDigit).length + 1 := by unfold runTo; omega
  rw [e, List.take_succ_cons]
  simp only [List.toList_toArray]
  congr 1
  exact (List.prefix_iff_eq_take.1 (List.takeWhile_prefix isDigit)).symm
theorem num_bare (c : UInt8) (l : List UInt8) : ((⟨(c :: l).toArray⟩ : ByteArray).toList == [45]) = (c == 45 && l.isEmpty) := by
  rw [Lib.toList_data]
  cases l with
  | nil => simp
  | cons a t => simp
theorem unq_le : ∀ (n : Nat) (l : List UInt8) (t : List UInt8) (k : Nat), l.length ≤ n → unq l = some (t, k) → 0 < k ∧ k ≤ l.length := by
  intro n
  induction n with
  | zero => intro l t k hl h; cases l with
    | nil => simp [unq] at h
    | cons => simp at hl
  | succ n ih =>
    intro l t k hl h
    cases l with
    | nil => simp [unq] at h
    | cons c l =>
      rw [unq_cons] at h
      split at h
      · simp at h; simp; omega
      · split at h
        · match l, h with
          | x :: a :: b :: l', h =>
            dsimp only at h
            split at h
            · split at h
              · split at h
                · simp at h
                · cases hu : unq l' with
                  | none => rw [hu] at h; simp at h
                  | some p =>
                    rw [hu] at h; simp at h
                    have := ih l' p.1 p.2 (by simp at hl; omega) (by rw [hu])
                    simp; omega
              · simp at h
            · simp at h
          | [], h => simp at h
          | [_], h => simp at h
          | [_, _], h => simp at h
        · split at h
          · cases hu : unq l with
            | none => rw [hu] at h; simp at h
            | some p =>
              rw [hu] at h; simp at h
              have := ih l p.1 p.2 (by simp at hl; omega) (by rw [hu])
              simp; omega
          · simp at h
theorem unqAt_le (s : ByteArray) (i : Nat) (t : List UInt8) (e : Nat) (hi : i ≤ s.size) (h : unqAt s i = some (t, e)) : i < e ∧ e ≤ s.size := by
  unfold unqAt at h
  cases hu : unq (s.data.toList.drop i) with
  | none => rw [hu] at h; simp at h
  | some p =>
    rw [hu] at h; simp at h
    have := unq_le _ _ p.1 p.2 (Nat.le_refl _) (by rw [hu])
    simp only [List.length_drop, Array.length_toList] at this
    have : s.data.size = s.size := rfl
    omega
theorem tokAt_le (s : ByteArray) (j : Nat) (k : Int) (t : List UInt8) (e : Nat) (hj : j < s.size) (h : tokAt s j = some (k, t, e)) : j < e ∧ e ≤ s.size := by
  unfold tokAt at h
  rw [drop_cons s j hj] at h
  dsimp only at h
  split at h
  · rename_i hl
    simp at h
    have h1 := runTo_lt isWord s j hj (by simp [isWord, hl])
    have h2 := (runTo_le isWord s j (by omega)).2
    omega
  · split at h
    · split at h
      · simp at h
      · simp at h
        have := runTo_le isDigit s (j + 1) (by omega)
        omega
    · split at h
      · cases hu : unqAt s (j + 1) with
        | none => rw [hu] at h; simp at h
        | some p =>
          rw [hu] at h; simp at h
          have := unqAt_le s (j + 1) p.1 p.2 (by omega) (by rw [hu])
          omega
      · split at h
        · simp at h; omega
        · simp at h

/-! numbers -/
def digVal (c : UInt8) : Nat := (c.toNat + 208) % 256
def digFold : Nat → List UInt8 → Option Nat
  | n, [] => some n
  | n, c :: t => if n > (18446744073709551615 - digVal c) / 10 then none else digFold (10 * n + digVal c) t
def digitsOf : List UInt8 → Option Nat
  | [] => none
  | c :: t => if (0 < t.length ∧ c = 48) ∨ 20 < t.length + 1 then none else digFold 0 (c :: t)
theorem digFold_lt : ∀ (l : List UInt8) (n m : Nat), n < 18446744073709551616 → digFold n l = some m → m < 18446744073709551616
  | [], n, m, hn, h => by simp [digFold] at h; omega
  | c :: t, n, m, hn, h => by
    have hd : digVal c < 256 := Nat.mod_lt _ (by decide)
    unfold digFold at h
    split at h
    · simp at h
    · exact digFold_lt t _ m (by omega) h
theorem digVal_int (c : UInt8) : ((digVal c : Nat) : Int) = ((c.toNat : Int) - 48) % 256 := by
  unfold digVal; have := c.toNat_lt; omega
theorem digFold_big {c : UInt8} {N : Nat} (t : List UInt8) (h : (18446744073709551615 - ((c.toNat : Int) - 48) % 256) / 10 < (N : Int)) : digFold N (c :: t) = none := by
  rw [← digVal_int] at h
  have hd : digVal c < 256 := Nat.mod_lt _ (by decide)
  unfold digFold; rw [if_pos (by omega)]
theorem digFold_next {c : UInt8} {N : Nat} (t : List UInt8) (h : (N : Int) ≤ (18446744073709551615 - ((c.toNat : Int) - 48) % 256) / 10) :
    digFold N (c :: t) = digFold (10 * N + digVal c) t ∧ 10 * N + digVal c < 18446744073709551616 ∧ 10 * (N : Int) + ((c.toNat : Int) - 48) % 256 = ((10 * N + digVal c : Nat) : Int) := by
  rw [← digVal_int] at h
  have hd : digVal c < 256 := Nat.mod_lt _ (by decide)
  refine ⟨?_, by omega, by rw [← digVal_int]; omega⟩
  rw [digFold, if_neg (by omega)]
/-- The whole number that a number's sign and digits are. -/
def numPos (n : Nat) : Option Int := if 9223372036854775808 ≤ n then none else some (n : Int)
def numNeg (n : Nat) : Option Int := if n = 0 ∨ 9223372036854775808 < n then none else some (-(n : Int))
def numVal (l : List UInt8) : Option Int := if l.head? = some 45 then (digitsOf l.tail).bind numNeg else (digitsOf l).bind numPos
theorem ext_tail (s : ByteArray) : (s.extract 1 s.size).data.toList = s.data.toList.tail := by
  rw [extract_list, List.drop_one, List.take_of_length_le (by simp)]
theorem head_get (s : ByteArray) (h : 0 < s.size) : s.data.toList.head? = some s[0] := by
  have e := drop_cons s 0 h
  rw [List.drop_zero] at e
  rw [e]; rfl

end Go.Proofs.Ytokkjnfdfbpphaa.A
namespace Go.Proofs.Ytokkjnfdfbpphaa.A
open Go.RowKit Go.Proofs.YtokkjnfdfbpphaaW.PrintWords Go.Proofs.YtokkjnfdfbpphaaW.PrintLast Go.Proofs.YtokkjnfdfbpphaaW.PrintMore
attribute [local go_sem] max2_int min2_int max_two min_two max_three min_three max_four min_four   -- for this text's walks alone
set_option linter.unusedVariables false
set_option linter.unusedSimpArgs false

/-! ### chartularylaw23_cut: function 8 -/
def chartularylaw23_cut.f (a0 : ByteArray) : Option (ByteArray) := if (a0.size : Int) > 500 then (if 0 ≤ 500 then (if 500 ≤ (a0.size : Int) then (some (a0.extract 0 500)) else (none)) else (none)) else (some a0)
set_option maxHeartbeats 8000000 in
set_option maxRecDepth 100000 in
theorem chartularylaw23_cut.calls (a0 : ByteArray) (r : ByteArray) (w : World) (h : chartularylaw23_cut.f a0 = some r) :
    Calls Try.prog 8 #[.string a0] w fun e w' => e = .returned (.string r) ∧ Drawn0 w w' := by
  have H : (if (a0.size : Int) > 500 then (if 0 ≤ 500 then (if 500 ≤ (a0.size : Int) then (some (a0.extract 0 500)) else (none)) else (none)) else (some a0)) = some r := h
  clear h
  by_cases c2 : (a0.size : Int) > 500
  · rw [if_pos c2] at H
    have c2b0 : decide (500 < (a0.size : Int)) = true := decide_eq_true c2
    have c2b1 : decide (500 < a0.size) = true := decide_eq_true (by omega)
    clear c2
    by_cases c3 : 0 ≤ 500
    · rw [if_pos c3] at H
      have c3b0 := eq_true c3
      have c3b1 : decide (0 ≤ 500) = true := decide_eq_true c3
      clear c3
      by_cases c4 : 500 ≤ (a0.size : Int)
      · rw [if_pos c4] at H
        have c4b0 := eq_true c4
        have c4b1 : decide (500 ≤ (a0.size : Int)) = true := decide_eq_true c4
        clear c4
        obtain rfl := Option.some.inj H
        go_enter Try.func8, Try.ntmps8
        go_wp2
        go_ret
        exact ⟨by first | rfl | (simp; done) | (simp [*]; done), by repeat (first | exact Drawn0.refl _ | apply Drawn0.step)⟩
      · rw [if_neg c4] at H
        exact absurd H (by simp)
    · rw [if_neg c3] at H
      exact absurd H (by simp)
  · rw [if_neg c2] at H
    have c2b0 : decide (500 < (a0.size : Int)) = false := decide_eq_false c2
    have c2b1 : decide (500 < a0.size) = false := decide_eq_false (by omega)
    clear c2
    obtain rfl := Option.some.inj H
    go_enter Try.func8, Try.ntmps8
    go_wp2
    go_ret
    exact ⟨by first | rfl | (simp; done) | (simp [*]; done), by repeat (first | exact Drawn0.refl _ | apply Drawn0.step)⟩

end Go.Proofs.Ytokkjnfdfbpphaa.A
namespace Go.Proofs.Ytokkjnfdfbpphaa.A
open Go.RowKit Go.Proofs.YtokkjnfdfbpphaaW.PrintWords Go.Proofs.YtokkjnfdfbpphaaW.PrintLast Go.Proofs.YtokkjnfdfbpphaaW.PrintMore
attribute [local go_sem] max2_int min2_int max_two min_two max_three min_three max_four min_four   -- for this text's walks alone
set_option linter.unusedVariables false
set_option linter.unusedSimpArgs false

theorem cut_some (a0 : ByteArray) : ∃ t : ByteArray, chartularylaw23_cut.f a0 = some t ∧ t.size ≤ 500 := by
  unfold chartularylaw23_cut.f
  by_cases h : (a0.size : Int) > 500
  · rw [if_pos h, if_pos (by decide), if_pos (by omega)]
    exact ⟨_, rfl, by simp; omega⟩
  · rw [if_neg h]; exact ⟨_, rfl, by omega⟩

end Go.Proofs.Ytokkjnfdfbpphaa.A
namespace Go.Proofs.Ytokkjnfdfbpphaa.A
open Go.RowKit Go.Proofs.YtokkjnfdfbpphaaW.PrintWords Go.Proofs.YtokkjnfdfbpphaaW.PrintLast Go.Proofs.YtokkjnfdfbpphaaW.PrintMore
attribute [local go_sem] max2_int min2_int max_two min_two max_three min_three max_four min_four   -- for this text's walks alone
set_option linter.unusedVariables false
set_option linter.unusedSimpArgs false

/-- All tokens from byte i on; else at which byte what is none begins. -/
def lexAll : Nat → ByteArray → Nat → Except Nat (List S28)
  | 0, _, _ => .ok []
  | n + 1, s, i =>
    if blanksTo s i = s.size then .ok []
    else match tokAt s (blanksTo s i) with
      | none => .error (blanksTo s i)
      | some (k, t, e) => (lexAll n s e).map fun l => (⟨k, ⟨t.toArray⟩, (blanksTo s i : Int)⟩ : S28) :: l
def lexed (s : ByteArray) : Except Nat (List S28) := lexAll (s.size + 1) s 0
theorem except_map_map {ε α β γ : Type} (x : Except ε α) (f : α → β) (g : β → γ) : (x.map f).map g = x.map fun a => g (f a) := by cases x <;> rfl
theorem info28 : (Try.prog.info? 28).map (fun i => (i.zero, i.size, i.bytes)) = some (some (.agg #[(.int .i64 0), (.string ⟨#[]⟩), (.int .i64 0)]), 3, 32) := by kernel_rfl

end Go.Proofs.Ytokkjnfdfbpphaa.A
namespace Go.Proofs.Ytokkjnfdfbpphaa.A
open Go.RowKit Go.Proofs.YtokkjnfdfbpphaaW.PrintWords Go.Proofs.YtokkjnfdfbpphaaW.PrintLast Go.Proofs.YtokkjnfdfbpphaaW.PrintMore
attribute [local go_sem] max2_int min2_int max_two min_two max_three min_three max_four min_four   -- for this text's walks alone
set_option linter.unusedVariables false
set_option linter.unusedSimpArgs false

/-! the lexer over lists -/
/-- A list's first token: its kind, its text, how many bytes it takes. -/
def tokL : List UInt8 → Option (Int × List UInt8 × Nat)
  | [] => none
  | c :: t =>
    if isLetter c then some (0, (c :: t).takeWhile isWord, ((c :: t).takeWhile isWord).length)
    else if isDigit c || c == 45 then
      if c == 45 && (t.takeWhile isDigit).isEmpty then none else some (1, c :: t.takeWhile isDigit, (t.takeWhile isDigit).length + 1)
    else if c == 34 then (unq t).map fun p => (2, p.1, p.2 + 1)
    else if isMark c then some (3, [c], 1) else none
theorem tokAt_list (s : ByteArray) (j : Nat) : tokAt s j = (tokL (s.data.toList.drop j)).map fun p => (p.1, p.2.1, j + p.2.2) := by
  unfold tokAt tokL
  cases hl : s.data.toList.drop j with
  | nil => rfl
  | cons c t =>
    have ht : s.data.toList.drop (j + 1) = t := by rw [← List.drop_drop, hl]; rfl
    dsimp only
    split
    · simp [runTo, hl]
    · split
      · split
        · rfl
        · simp [runTo, ht]; omega
      · split
        · unfold unqAt; rw [ht]; cases unq t with
          | none => rfl
          | some p => simp; omega
        · split <;> rfl
def lexL : Nat → List UInt8 → Nat → Except Nat (List S28)
  | 0, _, _ => .ok []
  | n + 1, l, p =>
    if l.drop (blankLen false l) = [] then .ok []
    else match tokL (l.drop (blankLen false l)) with
      | none => .error (p + blankLen false l)
      | some (k, t, m) => (lexL n (l.drop (blankLen false l + m)) (p + blankLen false l + m)).map fun r => (⟨k, ⟨t.toArray⟩, ((p + blankLen false l : Nat) : Int)⟩ : S28) :: r
theorem lexAll_list : ∀ (n : Nat) (s : ByteArray) (i : Nat), i ≤ s.size → lexAll n s i = lexL n (s.data.toList.drop i) i
  | 0, _, _, _ => rfl
  | n + 1, s, i, hi => by
    have hb := blankLen_le (s.data.toList.drop i) false
    have hsz : s.data.toList.length = s.size := by simp
    rw [List.length_drop, hsz] at hb
    unfold lexAll lexL
    have e : (blanksTo s i = s.size) = ((s.data.toList.drop i).drop (blankLen false (s.data.toList.drop i)) = []) := by
      rw [List.drop_eq_nil_iff, List.length_drop, hsz]; unfold blanksTo; apply propext; omega
    simp only [e]
    split
    · rfl
    · rw [tokAt_list]
      have e2 : s.data.toList.drop (blanksTo s i) = (s.data.toList.drop i).drop (blankLen false (s.data.toList.drop i)) := by rw [List.drop_drop]; rfl
      rw [e2]
      cases ht : tokL ((s.data.toList.drop i).drop (blankLen false (s.data.toList.drop i))) with
      | none => rfl
      | some q =>
        obtain ⟨k, t, m⟩ := q
        dsimp only [Option.map_some]
        have hle := tokAt_le s (blanksTo s i) k t (blanksTo s i + m) (by unfold blanksTo; rename_i hne; rw [List.drop_eq_nil_iff, List.length_drop, hsz] at hne; omega) (by rw [tokAt_list, e2, ht]; rfl)
        rw [lexAll_list n s _ hle.2]
        rw [show s.data.toList.drop (blanksTo s i + m) = (s.data.toList.drop i).drop (blankLen false (s.data.toList.drop i) + m) from by rw [List.drop_drop]; congr 1; unfold blanksTo; omega]
        rfl
theorem lexed_list (s : ByteArray) : lexed s = lexL (s.size + 1) s.data.toList 0 := lexAll_list _ s 0 (Nat.zero_le _)
/-! a quote is read again -/
theorem hex_nibble (n : Fin 16) : hexVal (hexDigit n.1) = n.1 := by revert n; decide +kernel
theorem escape_quote (c : UInt8) : escapeVal [hexDigit (c.toNat / 16), hexDigit (c.toNat % 16)] = some c := by
  have hc := c.toNat_lt
  have h1 := hex_nibble ⟨c.toNat / 16, by omega⟩
  have h2 := hex_nibble ⟨c.toNat % 16, by omega⟩
  unfold escapeVal
  simp only [h1, h2]
  rw [if_pos ⟨by omega, by omega⟩]
  congr 1
  apply UInt8.toNat_inj.1
  simp
  omega
theorem unq_quote (l r : List UInt8) : unq (quoteBody l ++ 34 :: r) = some (l, (quoteBody l).length + 1) := by
  induction l with
  | nil => rw [show quoteBody [] = [] from rfl, List.nil_append, unq_cons]; simp
  | cons c t ih =>
    rw [show quoteBody (c :: t) = quoteByte c ++ quoteBody t from rfl, List.append_assoc]
    unfold quoteByte
    cases hp : isPlain c with
    | true =>
      have h1 : ¬ (c == 34) = true := by intro h; simp [isPlain] at hp h; simp [h] at hp
      have h2 : ¬ (c == 92) = true := by intro h; simp [isPlain] at hp h; simp [h] at hp
      simp only [if_true, List.singleton_append]
      rw [unq_cons, if_neg h1, if_neg h2, hp, if_pos rfl, ih]
      simp
    | false =>
      simp only [Bool.false_eq_true, if_false, List.cons_append, List.nil_append]
      rw [unq_cons, if_neg (by decide), if_pos (by decide)]
      dsimp only
      rw [if_pos (by decide), escape_quote]
      dsimp only
      rw [hp, ih]
      simp
theorem tok_quote (l r : List UInt8) : tokL (quoted l ++ r) = some (2, l, (quoted l).length) := by
  unfold quoted tokL
  rw [List.cons_append, List.append_assoc]
  simp only [List.cons_append, List.nil_append]
  rw [if_neg (by decide), if_neg (by decide), if_pos (by decide), unq_quote]
  simp
theorem quoted_le (l : List UInt8) : (quoted l).length ≤ 4 * l.length + 2 := by
  have := quoteBody_le l; unfold quoted; simp; omega

end Go.Proofs.Ytokkjnfdfbpphaa.A
namespace Go.Proofs.Ytokkjnfdfbpphaa.A
open Go.RowKit Go.Proofs.YtokkjnfdfbpphaaW.PrintWords Go.Proofs.YtokkjnfdfbpphaaW.PrintLast Go.Proofs.YtokkjnfdfbpphaaW.PrintMore
attribute [local go_sem] max2_int min2_int max_two min_two max_three min_three max_four min_four   -- for this text's walks alone
set_option linter.unusedVariables false
set_option linter.unusedSimpArgs false

theorem only_drewN {a w : World} {row : Option Nat} (h : a.grownBy w row) (n : Nat) : a.grownBy (w.drewN n) row := ⟨h.os, h.tape, h.output, h.size, h.block⟩
theorem only_drew {a w : World} {row : Option Nat} (h : a.grownBy w row) : a.grownBy w.drew row := ⟨h.os, h.tape, h.output, h.size, h.block⟩
theorem only_refl (w : World) (row : Option Nat) : w.grownBy w row := ⟨rfl, rfl, rfl, Nat.le_refl _, fun _ _ _ => rfl⟩
theorem only_alloc {a w : World} {row : Option Nat} (h : a.grownBy w row) (o : Obj) : a.grownBy (w.alloc o) row :=
  ⟨h.os, h.tape, h.output, Nat.le_trans h.size (by simp), fun i hi hne => (Below.heap_alloc w o i (Nat.lt_of_lt_of_le hi h.size)).trans (h.block i hi hne)⟩
theorem only_setCell {a w : World} {g : Nat} (h : a.grownBy w (some g)) {p : Addr} (hp : p.block = g ∨ a.heap.size ≤ p.block) (u : Value) : a.grownBy (w.setCell p u) (some g) :=
  ⟨h.os, h.tape, h.output, by simpa [World.setCell] using h.size, fun i hi hne => (Below.heap_setCell w p u i (by
    rintro rfl
    rcases hp with hp | hp
    · exact hne (by rw [hp])
    · omega)).trans (h.block i hi hne)⟩
theorem only_trans {a b c : World} {row : Option Nat} (h : a.grownBy b row) (k : b.grownBy c row) : a.grownBy c row :=
  ⟨k.os.trans h.os, k.tape.trans h.tape, k.output.trans h.output, Nat.le_trans h.size k.size, fun i hi hne => (k.block i (Nat.lt_of_lt_of_le hi h.size) hne).trans (h.block i hi hne)⟩
theorem only_of_below {a w : World} (h : Below a.heap.size a w) (row : Option Nat) : a.grownBy w row := ⟨h.os, h.tape, h.output, h.size, fun i hi _ => h.block i hi⟩

/-- The place in a lexer's block. -/
def atOf (w : World) (g : Nat) : Nat := match w.cell? ⟨g, 1, none⟩ with | some (.int _ n) => n.toNat | _ => 0
theorem atOf_of {w : World} {g : Nat} {s : ByteArray} {i : Nat} (h : w.heap[g]? = some (.cells #[.string s, .int .i64 (i : Int)] 68 (0, 0))) : atOf w g = i := by
  have e : w.cell? ⟨g, 1, none⟩ = some (.int .i64 (i : Int)) := (blk_cell h 1).trans rfl
  simp [atOf, e]
theorem adv {w : World} {g : Nat} {s : ByteArray} {i : Nat} (h : w.heap[g]? = some (.cells #[.string s, .int .i64 (i : Int)] 68 (0, 0))) :
    (w.setCell ⟨g, 1, none⟩ (.int .i64 ((i : Int) + 1))).heap[g]? = some (.cells #[.string s, .int .i64 ((i + 1 : Nat) : Int)] 68 (0, 0)) := by
  simpa using blk_put h 1 _ rfl
theorem bel_drewN {B : Nat} {a w : World} (h : Below B a w) (n : Nat) : Below B a (w.drewN n) := ⟨h.os, h.tape, h.output, h.size, h.block⟩
theorem only_below {w wr w2 : World} {r : Option Nat} (h : w.grownBy wr r) (k : Below w.heap.size wr w2) : w.grownBy w2 r :=
  ⟨k.os.trans h.os, k.tape.trans h.tape, k.output.trans h.output, Nat.le_trans h.size k.size, fun i hi hne => (k.block i hi).trans (h.block i hi hne)⟩
theorem quiet_add {P : Program} {f : FuncId} {args : Array Value} {w : World} {a n : Nat} {v : Value}
    (h : Calls P f args (w.drewN (a + n)) fun e w' => e = .returned v ∧ ∃ m, w' = (w.drewN (a + n)).drewN m) :
    Calls P f args (w.drewN (a + n)) fun e w'' => e = .returned v ∧ ∃ m, w'' = w.drewN (a + m) :=
  h.mono fun _ _ ⟨he, m, hm⟩ => ⟨he, n + m, by rw [hm, World.drewN_drewN, Nat.add_assoc]⟩
theorem gen_wp {P : Program} {c : Code} {Q : Exit → Act → World → Prop} {a : Act} {w : World} (S : World → Prop) (h : S w) (k : ∀ W, S W → c.wp P Q a W) : c.wp P Q a w := k w h
theorem gen_calls {P : Program} {f : FuncId} {args : Array Value} {R : Ending → World → Prop} {w : World} (S : World → Prop) (h : S w) (k : ∀ W, S W → Calls P f args W R) : Calls P f args w R := k w h
theorem new_three {w : World} {T : TypeId} (x y z a b c : Value) :
    ((((w.alloc (.cells #[x, y, z] T)).setCell ⟨w.heap.size, 0, none⟩ a).setCell ⟨w.heap.size, 1, none⟩ b).setCell ⟨w.heap.size, 2, none⟩ c).heap[w.heap.size]? = some (.cells #[a, b, c] T (0, 0)) :=
  blk_put (blk_put (blk_put (blk_new w _) 0 a rfl) 1 b rfl) 2 c rfl

end Go.Proofs.Ytokkjnfdfbpphaa.A
namespace Go.Proofs.Ytokkjnfdfbpphaa.A
open Go.RowKit Go.Proofs.YtokkjnfdfbpphaaW.PrintWords Go.Proofs.YtokkjnfdfbpphaaW.PrintLast Go.Proofs.YtokkjnfdfbpphaaW.PrintMore
attribute [local go_sem] max2_int min2_int max_two min_two max_three min_three max_four min_four   -- for this text's walks alone
set_option linter.unusedVariables false
set_option linter.unusedSimpArgs false

/-! ### say_plain: function 26 -/
def say_plain.f (a0 : Int) : Option (Bool) := if a0 ≥ 32 then (if a0 < 127 then (if a0 = 34 then (some false) else (some (a0 != 92))) else (some false)) else (some false)
set_option maxHeartbeats 8000000 in
set_option maxRecDepth 100000 in
theorem say_plain.calls (a0 : Int) (r : Bool) (w : World) (h : say_plain.f a0 = some r) :
    Calls Try.prog 26 #[.int .u8 a0] w fun e w' => e = .returned (.bool r) ∧ Drawn0 w w' := by
  have H : (if a0 ≥ 32 then (if a0 < 127 then (if a0 = 34 then (some false) else (some (a0 != 92))) else (some false)) else (some false)) = some r := h
  clear h
  by_cases c2 : a0 ≥ 32
  · rw [if_pos c2] at H
    have c2b0 : decide (32 ≤ a0) = true := decide_eq_true c2
    clear c2
    by_cases c3 : a0 < 127
    · rw [if_pos c3] at H
      have c3b0 : decide (a0 < 127) = true := decide_eq_true c3
      clear c3
      by_cases c4 : a0 = 34
      · rw [if_pos c4] at H
        have c4b0 : (a0 == 34) = true := beq_iff_eq.mpr c4
        have c4b1 : (a0 != 34) = false := bne_eq_false_iff_eq.mpr c4
        clear c4
        obtain rfl := Option.some.inj H
        go_enter Try.func26, Try.ntmps26
        go_wp2
        go_ret
        exact ⟨by first | rfl | (simp; done) | (simp [*]; done), by repeat (first | exact Drawn0.refl _ | apply Drawn0.step)⟩
      · rw [if_neg c4] at H
        have c4b0 : (a0 == 34) = false := beq_eq_false_iff_ne.mpr c4
        have c4b1 : (a0 != 34) = true := bne_iff_ne.mpr c4
        obtain rfl := Option.some.inj H
        go_enter Try.func26, Try.ntmps26
        go_wp2
        go_ret
        exact ⟨by first | rfl | (simp; done) | (simp [*]; done), by repeat (first | exact Drawn0.refl _ | apply Drawn0.step)⟩
    · rw [if_neg c3] at H
      have c3b0 : decide (a0 < 127) = false := decide_eq_false c3
      clear c3
      obtain rfl := Option.some.inj H
      go_enter Try.func26, Try.ntmps26
      go_wp2
      go_ret
      exact ⟨by first | rfl | (simp; done) | (simp [*]; done), by repeat (first | exact Drawn0.refl _ | apply Drawn0.step)⟩
  · rw [if_neg c2] at H
    have c2b0 : decide (32 ≤ a0) = false := decide_eq_false c2
    clear c2
    obtain rfl := Option.some.inj H
    go_enter Try.func26, Try.ntmps26
    go_wp2
    go_ret
    exact ⟨by first | rfl | (simp; done) | (simp [*]; done), by repeat (first | exact Drawn0.refl _ | apply Drawn0.step)⟩

end Go.Proofs.Ytokkjnfdfbpphaa.A
namespace Go.Proofs.Ytokkjnfdfbpphaa.A
open Go.RowKit Go.Proofs.YtokkjnfdfbpphaaW.PrintWords Go.Proofs.YtokkjnfdfbpphaaW.PrintLast Go.Proofs.YtokkjnfdfbpphaaW.PrintMore
attribute [local go_sem] max2_int min2_int max_two min_two max_three min_three max_four min_four   -- for this text's walks alone
set_option linter.unusedVariables false
set_option linter.unusedSimpArgs false

/-! ### say_letter: function 48 -/
def say_letter.f (a0 : Int) : Option (Bool) := if a0 ≥ 97 then (if a0 ≤ 122 then (some true) else (if a0 ≥ 65 then (if a0 ≤ 90 then (some true) else (some (a0 == 95))) else (some (a0 == 95)))) else (if a0 ≥ 65 then (if a0 ≤ 90 then (some true) else (some (a0 == 95))) else (some (a0 == 95)))
set_option maxHeartbeats 8000000 in
set_option maxRecDepth 100000 in
theorem say_letter.calls (a0 : Int) (r : Bool) (w : World) (h : say_letter.f a0 = some r) :
    Calls Try.prog 48 #[.int .u8 a0] w fun e w' => e = .returned (.bool r) ∧ Drawn0 w w' := by
  have H : (if a0 ≥ 97 then (if a0 ≤ 122 then (some true) else (if a0 ≥ 65 then (if a0 ≤ 90 then (some true) else (some (a0 == 95))) else (some (a0 == 95)))) else (if a0 ≥ 65 then (if a0 ≤ 90 then (some true) else (some (a0 == 95))) else (some (a0 == 95)))) = some r := h
  clear h
  by_cases c2 : a0 ≥ 97
  · rw [if_pos c2] at H
    have c2b0 : decide (97 ≤ a0) = true := decide_eq_true c2
    clear c2
    by_cases c3 : a0 ≤ 122
    · rw [if_pos c3] at H
      have c3b0 : decide (a0 ≤ 122) = true := decide_eq_true c3
      clear c3
      obtain rfl := Option.some.inj H
      go_enter Try.func48, Try.ntmps48
      go_wp2
      go_ret
      exact ⟨by first | rfl | (simp; done) | (simp [*]; done), by repeat (first | exact Drawn0.refl _ | apply Drawn0.step)⟩
    · rw [if_neg c3] at H
      have c3b0 : decide (a0 ≤ 122) = false := decide_eq_false c3
      clear c3
      by_cases c4 : a0 ≥ 65
      · rw [if_pos c4] at H
        have c4b0 : decide (65 ≤ a0) = true := decide_eq_true c4
        clear c4
        by_cases c5 : a0 ≤ 90
        · rw [if_pos c5] at H
          have c5b0 : decide (a0 ≤ 90) = true := decide_eq_true c5
          clear c5
          obtain rfl := Option.some.inj H
          go_enter Try.func48, Try.ntmps48
          go_wp2
          go_ret
          exact ⟨by first | rfl | (simp; done) | (simp [*]; done), by repeat (first | exact Drawn0.refl _ | apply Drawn0.step)⟩
        · rw [if_neg c5] at H
          have c5b0 : decide (a0 ≤ 90) = false := decide_eq_false c5
          clear c5
          obtain rfl := Option.some.inj H
          go_enter Try.func48, Try.ntmps48
          go_wp2
          go_ret
          exact ⟨by first | rfl | (simp; done) | (simp [*]; done), by repeat (first | exact Drawn0.refl _ | apply Drawn0.step)⟩
      · rw [if_neg c4] at H
        have c4b0 : decide (65 ≤ a0) = false := decide_eq_false c4
        clear c4
        obtain rfl := Option.some.inj H
        go_enter Try.func48, Try.ntmps48
        go_wp2
        go_ret
        exact ⟨by first | rfl | (simp; done) | (simp [*]; done), by repeat (first | exact Drawn0.refl _ | apply Drawn0.step)⟩
  · rw [if_neg c2] at H
    have c2b0 : decide (97 ≤ a0) = false := decide_eq_false c2
    clear c2
    by_cases c6 : a0 ≥ 65
    · rw [if_pos c6] at H
      have c6b0 : decide (65 ≤ a0) = true := decide_eq_true c6
      clear c6
      by_cases c7 : a0 ≤ 90
      · rw [if_pos c7] at H
        have c7b0 : decide (a0 ≤ 90) = true := decide_eq_true c7
        clear c7
        obtain rfl := Option.some.inj H
        go_enter Try.func48, Try.ntmps48
        go_wp2
        go_ret
        exact ⟨by first | rfl | (simp; done) | (simp [*]; done), by repeat (first | exact Drawn0.refl _ | apply Drawn0.step)⟩
      · rw [if_neg c7] at H
        have c7b0 : decide (a0 ≤ 90) = false := decide_eq_false c7
        clear c7
        obtain rfl := Option.some.inj H
        go_enter Try.func48, Try.ntmps48
        go_wp2
        go_ret
        exact ⟨by first | rfl | (simp; done) | (simp [*]; done), by repeat (first | exact Drawn0.refl _ | apply Drawn0.step)⟩
    · rw [if_neg c6] at H
      have c6b0 : decide (65 ≤ a0) = false := decide_eq_false c6
      clear c6
      obtain rfl := Option.some.inj H
      go_enter Try.func48, Try.ntmps48
      go_wp2
      go_ret
      exact ⟨by first | rfl | (simp; done) | (simp [*]; done), by repeat (first | exact Drawn0.refl _ | apply Drawn0.step)⟩

end Go.Proofs.Ytokkjnfdfbpphaa.A
namespace Go.Proofs.Ytokkjnfdfbpphaa.A
open Go.RowKit Go.Proofs.YtokkjnfdfbpphaaW.PrintWords Go.Proofs.YtokkjnfdfbpphaaW.PrintLast Go.Proofs.YtokkjnfdfbpphaaW.PrintMore
attribute [local go_sem] max2_int min2_int max_two min_two max_three min_three max_four min_four   -- for this text's walks alone
set_option linter.unusedVariables false
set_option linter.unusedSimpArgs false

/-! ### say_digit: function 51 -/
def say_digit.f (a0 : Int) : Option (Bool) := if a0 ≥ 48 then (some (decide (a0 ≤ 57))) else (some false)
set_option maxHeartbeats 8000000 in
set_option maxRecDepth 100000 in
theorem say_digit.calls (a0 : Int) (r : Bool) (w : World) (h : say_digit.f a0 = some r) :
    Calls Try.prog 51 #[.int .u8 a0] w fun e w' => e = .returned (.bool r) ∧ Drawn0 w w' := by
  have H : (if a0 ≥ 48 then (some (decide (a0 ≤ 57))) else (some false)) = some r := h
  clear h
  by_cases c2 : a0 ≥ 48
  · rw [if_pos c2] at H
    have c2b0 : decide (48 ≤ a0) = true := decide_eq_true c2
    clear c2
    obtain rfl := Option.some.inj H
    go_enter Try.func51, Try.ntmps51
    go_wp2
    go_ret
    exact ⟨by first | rfl | (simp; done) | (simp [*]; done), by repeat (first | exact Drawn0.refl _ | apply Drawn0.step)⟩
  · rw [if_neg c2] at H
    have c2b0 : decide (48 ≤ a0) = false := decide_eq_false c2
    clear c2
    obtain rfl := Option.some.inj H
    go_enter Try.func51, Try.ntmps51
    go_wp2
    go_ret
    exact ⟨by first | rfl | (simp; done) | (simp [*]; done), by repeat (first | exact Drawn0.refl _ | apply Drawn0.step)⟩

end Go.Proofs.Ytokkjnfdfbpphaa.A
namespace Go.Proofs.Ytokkjnfdfbpphaa.A
open Go.RowKit Go.Proofs.YtokkjnfdfbpphaaW.PrintWords Go.Proofs.YtokkjnfdfbpphaaW.PrintLast Go.Proofs.YtokkjnfdfbpphaaW.PrintMore
attribute [local go_sem] max2_int min2_int max_two min_two max_three min_three max_four min_four   -- for this text's walks alone
set_option linter.unusedVariables false
set_option linter.unusedSimpArgs false

theorem digit_q (c : UInt8) (w : World) : Calls Try.prog 51 #[.int .u8 (c.toNat : Int)] w fun e w' => e = .returned (.bool (isDigit c)) ∧ ∃ n, w' = w.drewN n := by
  refine (say_digit.calls _ (isDigit c) w ?_).mono fun e w' ⟨he, hd⟩ => ⟨he, hd.out⟩
  unfold say_digit.f
  have e : isDigit c = (decide ((48 : Int) ≤ c.toNat) && decide ((c.toNat : Int) ≤ 57)) := by
    unfold isDigit; rw [Bool.eq_iff_iff]; simp [UInt8.le_iff_toNat_le]; omega
  rw [e]; split <;> simp_all <;> omega
theorem letter_q (c : UInt8) (w : World) : Calls Try.prog 48 #[.int .u8 (c.toNat : Int)] w fun e w' => e = .returned (.bool (isLetter c)) ∧ ∃ n, w' = w.drewN n := by
  refine (say_letter.calls _ (isLetter c) w ?_).mono fun e w' ⟨he, hd⟩ => ⟨he, hd.out⟩
  unfold say_letter.f
  have e : isLetter c = ((decide ((97 : Int) ≤ c.toNat) && decide ((c.toNat : Int) ≤ 122)) || (decide ((65 : Int) ≤ c.toNat) && decide ((c.toNat : Int) ≤ 90)) || decide ((c.toNat : Int) = 95)) := by
    unfold isLetter; rw [Bool.eq_iff_iff]; simp [UInt8.le_iff_toNat_le, ← UInt8.toNat_inj]; omega
  rw [e]; repeat' split
  all_goals (first | (simp_all; done) | (simp_all; omega) | (rw [Option.some.injEq, Bool.eq_iff_iff]; simp; omega))
theorem plain_q (c : UInt8) (w : World) : Calls Try.prog 26 #[.int .u8 (c.toNat : Int)] w fun e w' => e = .returned (.bool (isPlain c)) ∧ ∃ n, w' = w.drewN n := by
  refine (say_plain.calls _ (isPlain c) w ?_).mono fun e w' ⟨he, hd⟩ => ⟨he, hd.out⟩
  unfold say_plain.f
  have e : isPlain c = (decide ((32 : Int) ≤ c.toNat) && decide ((c.toNat : Int) < 127) && !decide ((c.toNat : Int) = 34) && !decide ((c.toNat : Int) = 92)) := by
    unfold isPlain; rw [Bool.eq_iff_iff]; simp [UInt8.le_iff_toNat_le, UInt8.lt_iff_toNat_lt, ← UInt8.toNat_inj]; omega
  rw [e]; repeat' split
  all_goals (first | (simp_all; done) | (simp_all; omega) | (rw [Option.some.injEq, Bool.eq_iff_iff]; simp; omega))

end Go.Proofs.Ytokkjnfdfbpphaa.A
namespace Go.Proofs.Ytokkjnfdfbpphaa.A
open Go.RowKit Go.Proofs.YtokkjnfdfbpphaaW.PrintWords Go.Proofs.YtokkjnfdfbpphaaW.PrintLast Go.Proofs.YtokkjnfdfbpphaaW.PrintMore
attribute [local go_sem] max2_int min2_int max_two min_two max_three min_three max_four min_four   -- for this text's walks alone
set_option linter.unusedVariables false
set_option linter.unusedSimpArgs false

set_option maxHeartbeats 400000 in
theorem break_q (c : UInt8) (w : World) : Calls Try.prog 65 #[.int .u8 (c.toNat : Int)] w fun e w' => e = .returned (.bool (notBreak c)) ∧ ∃ n, w' = w.drewN n := by
  have e : notBreak c = ((c.toNat : Int) != 10) := by
    unfold notBreak; rw [Bool.eq_iff_iff]; simp [← UInt8.toNat_inj]; omega
  go_enter Try.func65, Try.ntmps65
  go_wp2
  go_ret
  exact ⟨by rw [e]; rfl, 0, rfl⟩
set_option maxHeartbeats 400000 in
theorem word_q (c : UInt8) (w : World) : Calls Try.prog 50 #[.int .u8 (c.toNat : Int)] w fun e w' => e = .returned (.bool (isWord c)) ∧ ∃ n, w' = w.drewN n := by
  cases hl : isLetter c with
  | true =>
    have e : isWord c = true := by simp [isWord, hl]
    go_enter Try.func50, Try.ntmps50
    go_wp2_with (go_at_call 48; refine (letter_q c _).mono ?_; rintro e w' ⟨rfl, n, rfl⟩; rw [hl])
    go_ret
    exact ⟨by rw [e]; rfl, _, rfl⟩
  | false =>
    have e : isWord c = isDigit c := by simp [isWord, hl]
    go_enter Try.func50, Try.ntmps50
    go_wp2_with (first | (go_at_call 48; refine (letter_q c _).mono ?_; rintro e w' ⟨rfl, n, rfl⟩; rw [hl]) | (go_at_call 51; refine (digit_q c _).mono ?_; rintro e w' ⟨rfl, n, rfl⟩))
    go_ret
    exact ⟨by rw [e]; rfl, _, rfl⟩

end Go.Proofs.Ytokkjnfdfbpphaa.A
namespace Go.Proofs.Ytokkjnfdfbpphaa.A
open Go.RowKit Go.Proofs.YtokkjnfdfbpphaaW.PrintWords Go.Proofs.YtokkjnfdfbpphaaW.PrintLast Go.Proofs.YtokkjnfdfbpphaaW.PrintMore
attribute [local go_sem] max2_int min2_int max_two min_two max_three min_three max_four min_four   -- for this text's walks alone
set_option linter.unusedVariables false
set_option linter.unusedSimpArgs false

set_option maxRecDepth 100000 in
set_option maxHeartbeats 1000000 in
theorem run_word (g : Nat) (s : ByteArray) (k : Nat) (w : World) (hb : w.heap[g]? = some (.cells #[.string s, .int .i64 (k : Int)] 68 (0, 0)))
    (hs : s.size ≤ 140737488351232) (hk : k ≤ s.size) :
    Calls Try.prog 49 #[.pointer (some ⟨g, 0, none⟩), .func (.func 50) #[] #[]] w fun e w' =>
      e = .returned (.string (s.extract k (runTo isWord s k))) ∧ w'.heap[g]? = some (.cells #[.string s, .int .i64 (runTo isWord s k : Int)] 68 (0, 0)) ∧ w.grownBy w' (some g) := by
  have HB := Aside0.mk hb
  have c0 : w.cell? ⟨g, 0, none⟩ = some (.string s) := (blk_cell hb 0).trans rfl
  have c1 : w.cell? ⟨g, 1, none⟩ = some (.int .i64 (k : Int)) := (blk_cell hb 1).trans rfl
  clear hb
  go_enter Try.func49, Try.ntmps49
  go_wp2
  clear c0 c1
  go_loopw [20] (fun v wr => ∃ i : Nat, k ≤ i ∧ i ≤ s.size ∧ Aside0 (runTo isWord s i = runTo isWord s k) ∧ Aside0 (wr.heap[g]? = some (.cells #[.string s, .int .i64 (i : Int)] 68 (0, 0))) ∧ Aside0 (w.grownBy wr (some g)))
    (fun _ wr => s.size - (match wr.cell? ⟨g, 1, none⟩ with | some (.int _ n) => n.toNat | _ => 0))
  case atStart => exact ⟨k, Nat.le_refl _, hk, ⟨rfl⟩, HB, ⟨only_refl _ _⟩⟩
  case round =>
    obtain ⟨i, hi1, hi2, hr, hb, ho⟩ := hrel
    have c0 : wr.cell? ⟨g, 0, none⟩ = some (.string s) := (blk_cell hb.out 0).trans rfl
    have c1 : wr.cell? ⟨g, 1, none⟩ = some (.int .i64 (i : Int)) := (blk_cell hb.out 1).trans rfl
    have f1 : wr.frozen? ⟨g, 1, none⟩ = false := blk_frozen hb.out 1
    by_cases hlt : i < s.size
    · have hd : decide ((i : Int) < (s.size : Int)) = true := by simpa using hlt
      cases hp : isWord s[i] with
      | true =>
        have hst := Aside0.mk (runTo_step isWord s i hlt hp)
        go_wp2_with fail
        go_quiet ((go_at_call 50; exact Calls.quiet_of (word_q _ _)))
        rw [hp]
        clear hp
        go_wp2
        go_roundw
        case rel => exact ⟨i + 1, by omega, by omega, ⟨hst.out.trans hr.out⟩, ⟨by simpa using blk_put (blk_drewN hb.out _) 1 _ rfl⟩, ⟨only_setCell (only_drewN ho.out _) (.inl rfl) _⟩⟩
        case measure =>
          have e1 : (World.setCell (wr.drewN nq) ⟨g, 1, none⟩ (.int .i64 ((i : Int) + 1))).cell? ⟨g, 1, none⟩ = some (.int .i64 ((i : Int) + 1)) := (blk_cell (blk_put (blk_drewN hb.out _) 1 _ rfl) 1).trans rfl
          rw [e1, c1]
          simp; omega
      | false =>
        have hst := Aside0.mk (runTo_stop isWord s i hlt hp)
        go_wp2_with fail
        go_quiet ((go_at_call 50; exact Calls.quiet_of (word_q _ _)))
        rw [hp]
        clear hp
        go_wp2
        go_quiet (fail)
        go_wp2
        go_ret
        exact ⟨by rw [← hr.out, hst.out]; rfl, by rw [← hr.out, hst.out]; exact hb.out, only_drewN (only_drewN ho.out _) _⟩
    · have hd : decide ((i : Int) < (s.size : Int)) = false := by simpa using hlt
      have hst := Aside0.mk (runTo_end isWord s i (by omega))
      go_wp2_with fail
      go_quiet (fail)
      go_wp2
      go_quiet (fail)
      go_wp2
      go_ret
      exact ⟨by rw [← hr.out, hst.out]; rfl, by rw [← hr.out, hst.out]; exact hb.out, only_drewN (only_drewN ho.out _) _⟩

end Go.Proofs.Ytokkjnfdfbpphaa.A
namespace Go.Proofs.Ytokkjnfdfbpphaa.A
open Go.RowKit Go.Proofs.YtokkjnfdfbpphaaW.PrintWords Go.Proofs.YtokkjnfdfbpphaaW.PrintLast Go.Proofs.YtokkjnfdfbpphaaW.PrintMore
attribute [local go_sem] max2_int min2_int max_two min_two max_three min_three max_four min_four   -- for this text's walks alone
set_option linter.unusedVariables false
set_option linter.unusedSimpArgs false

set_option maxRecDepth 100000 in
set_option maxHeartbeats 1000000 in
theorem run_digits (g : Nat) (s : ByteArray) (k : Nat) (w : World) (hb : w.heap[g]? = some (.cells #[.string s, .int .i64 (k : Int)] 68 (0, 0)))
    (hs : s.size ≤ 140737488351232) (hk : k ≤ s.size) :
    Calls Try.prog 49 #[.pointer (some ⟨g, 0, none⟩), .func (.func 51) #[] #[]] w fun e w' =>
      e = .returned (.string (s.extract k (runTo isDigit s k))) ∧ w'.heap[g]? = some (.cells #[.string s, .int .i64 (runTo isDigit s k : Int)] 68 (0, 0)) ∧ w.grownBy w' (some g) := by
  have HB := Aside0.mk hb
  have c0 : w.cell? ⟨g, 0, none⟩ = some (.string s) := (blk_cell hb 0).trans rfl
  have c1 : w.cell? ⟨g, 1, none⟩ = some (.int .i64 (k : Int)) := (blk_cell hb 1).trans rfl
  clear hb
  go_enter Try.func49, Try.ntmps49
  go_wp2
  clear c0 c1
  go_loopw [20] (fun v wr => ∃ i : Nat, k ≤ i ∧ i ≤ s.size ∧ Aside0 (runTo isDigit s i = runTo isDigit s k) ∧ Aside0 (wr.heap[g]? = some (.cells #[.string s, .int .i64 (i : Int)] 68 (0, 0))) ∧ Aside0 (w.grownBy wr (some g)))
    (fun _ wr => s.size - (match wr.cell? ⟨g, 1, none⟩ with | some (.int _ n) => n.toNat | _ => 0))
  case atStart => exact ⟨k, Nat.le_refl _, hk, ⟨rfl⟩, HB, ⟨only_refl _ _⟩⟩
  case round =>
    obtain ⟨i, hi1, hi2, hr, hb, ho⟩ := hrel
    have c0 : wr.cell? ⟨g, 0, none⟩ = some (.string s) := (blk_cell hb.out 0).trans rfl
    have c1 : wr.cell? ⟨g, 1, none⟩ = some (.int .i64 (i : Int)) := (blk_cell hb.out 1).trans rfl
    have f1 : wr.frozen? ⟨g, 1, none⟩ = false := blk_frozen hb.out 1
    by_cases hlt : i < s.size
    · have hd : decide ((i : Int) < (s.size : Int)) = true := by simpa using hlt
      cases hp : isDigit s[i] with
      | true =>
        have hst := Aside0.mk (runTo_step isDigit s i hlt hp)
        go_wp2_with fail
        go_quiet ((go_at_call 51; exact Calls.quiet_of (digit_q _ _)))
        rw [hp]
        clear hp
        go_wp2
        go_roundw
        case rel => exact ⟨i + 1, by omega, by omega, ⟨hst.out.trans hr.out⟩, ⟨by simpa using blk_put (blk_drewN hb.out _) 1 _ rfl⟩, ⟨only_setCell (only_drewN ho.out _) (.inl rfl) _⟩⟩
        case measure =>
          have e1 : (World.setCell (wr.drewN nq) ⟨g, 1, none⟩ (.int .i64 ((i : Int) + 1))).cell? ⟨g, 1, none⟩ = some (.int .i64 ((i : Int) + 1)) := (blk_cell (blk_put (blk_drewN hb.out _) 1 _ rfl) 1).trans rfl
          rw [e1, c1]
          simp; omega
      | false =>
        have hst := Aside0.mk (runTo_stop isDigit s i hlt hp)
        go_wp2_with fail
        go_quiet ((go_at_call 51; exact Calls.quiet_of (digit_q _ _)))
        rw [hp]
        clear hp
        go_wp2
        go_quiet (fail)
        go_wp2
        go_ret
        exact ⟨by rw [← hr.out, hst.out]; rfl, by rw [← hr.out, hst.out]; exact hb.out, only_drewN (only_drewN ho.out _) _⟩
    · have hd : decide ((i : Int) < (s.size : Int)) = false := by simpa using hlt
      have hst := Aside0.mk (runTo_end isDigit s i (by omega))
      go_wp2_with fail
      go_quiet (fail)
      go_wp2
      go_quiet (fail)
      go_wp2
      go_ret
      exact ⟨by rw [← hr.out, hst.out]; rfl, by rw [← hr.out, hst.out]; exact hb.out, only_drewN (only_drewN ho.out _) _⟩

end Go.Proofs.Ytokkjnfdfbpphaa.A
namespace Go.Proofs.Ytokkjnfdfbpphaa.A
open Go.RowKit Go.Proofs.YtokkjnfdfbpphaaW.PrintWords Go.Proofs.YtokkjnfdfbpphaaW.PrintLast Go.Proofs.YtokkjnfdfbpphaaW.PrintMore
attribute [local go_sem] max2_int min2_int max_two min_two max_three min_three max_four min_four   -- for this text's walks alone
set_option linter.unusedVariables false
set_option linter.unusedSimpArgs false

set_option maxRecDepth 100000 in
set_option maxHeartbeats 1000000 in
theorem run_remark (g : Nat) (s : ByteArray) (k : Nat) (w : World) (hb : w.heap[g]? = some (.cells #[.string s, .int .i64 (k : Int)] 68 (0, 0)))
    (hs : s.size ≤ 140737488351232) (hk : k ≤ s.size) :
    Calls Try.prog 49 #[.pointer (some ⟨g, 0, none⟩), .func (.func 65) #[] #[]] w fun e w' =>
      e = .returned (.string (s.extract k (runTo notBreak s k))) ∧ w'.heap[g]? = some (.cells #[.string s, .int .i64 (runTo notBreak s k : Int)] 68 (0, 0)) ∧ w.grownBy w' (some g) := by
  have HB := Aside0.mk hb
  have c0 : w.cell? ⟨g, 0, none⟩ = some (.string s) := (blk_cell hb 0).trans rfl
  have c1 : w.cell? ⟨g, 1, none⟩ = some (.int .i64 (k : Int)) := (blk_cell hb 1).trans rfl
  clear hb
  go_enter Try.func49, Try.ntmps49
  go_wp2
  clear c0 c1
  go_loopw [20] (fun v wr => ∃ i : Nat, k ≤ i ∧ i ≤ s.size ∧ Aside0 (runTo notBreak s i = runTo notBreak s k) ∧ Aside0 (wr.heap[g]? = some (.cells #[.string s, .int .i64 (i : Int)] 68 (0, 0))) ∧ Aside0 (w.grownBy wr (some g)))
    (fun _ wr => s.size - (match wr.cell? ⟨g, 1, none⟩ with | some (.int _ n) => n.toNat | _ => 0))
  case atStart => exact ⟨k, Nat.le_refl _, hk, ⟨rfl⟩, HB, ⟨only_refl _ _⟩⟩
  case round =>
    obtain ⟨i, hi1, hi2, hr, hb, ho⟩ := hrel
    have c0 : wr.cell? ⟨g, 0, none⟩ = some (.string s) := (blk_cell hb.out 0).trans rfl
    have c1 : wr.cell? ⟨g, 1, none⟩ = some (.int .i64 (i : Int)) := (blk_cell hb.out 1).trans rfl
    have f1 : wr.frozen? ⟨g, 1, none⟩ = false := blk_frozen hb.out 1
    by_cases hlt : i < s.size
    · have hd : decide ((i : Int) < (s.size : Int)) = true := by simpa using hlt
      cases hp : notBreak s[i] with
      | true =>
        have hst := Aside0.mk (runTo_step notBreak s i hlt hp)
        go_wp2_with fail
        go_quiet ((go_at_call 65; exact Calls.quiet_of (break_q _ _)))
        rw [hp]
        clear hp
        go_wp2
        go_roundw
        case rel => exact ⟨i + 1, by omega, by omega, ⟨hst.out.trans hr.out⟩, ⟨by simpa using blk_put (blk_drewN hb.out _) 1 _ rfl⟩, ⟨only_setCell (only_drewN ho.out _) (.inl rfl) _⟩⟩
        case measure =>
          have e1 : (World.setCell (wr.drewN nq) ⟨g, 1, none⟩ (.int .i64 ((i : Int) + 1))).cell? ⟨g, 1, none⟩ = some (.int .i64 ((i : Int) + 1)) := (blk_cell (blk_put (blk_drewN hb.out _) 1 _ rfl) 1).trans rfl
          rw [e1, c1]
          simp; omega
      | false =>
        have hst := Aside0.mk (runTo_stop notBreak s i hlt hp)
        go_wp2_with fail
        go_quiet ((go_at_call 65; exact Calls.quiet_of (break_q _ _)))
        rw [hp]
        clear hp
        go_wp2
        go_quiet (fail)
        go_wp2
        go_ret
        exact ⟨by rw [← hr.out, hst.out]; rfl, by rw [← hr.out, hst.out]; exact hb.out, only_drewN (only_drewN ho.out _) _⟩
    · have hd : decide ((i : Int) < (s.size : Int)) = false := by simpa using hlt
      have hst := Aside0.mk (runTo_end notBreak s i (by omega))
      go_wp2_with fail
      go_quiet (fail)
      go_wp2
      go_quiet (fail)
      go_wp2
      go_ret
      exact ⟨by rw [← hr.out, hst.out]; rfl, by rw [← hr.out, hst.out]; exact hb.out, only_drewN (only_drewN ho.out _) _⟩

end Go.Proofs.Ytokkjnfdfbpphaa.A
namespace Go.Proofs.Ytokkjnfdfbpphaa.A
open Go.RowKit Go.Proofs.YtokkjnfdfbpphaaW.PrintWords Go.Proofs.YtokkjnfdfbpphaaW.PrintLast Go.Proofs.YtokkjnfdfbpphaaW.PrintMore
attribute [local go_sem] max2_int min2_int max_two min_two max_three min_three max_four min_four   -- for this text's walks alone
set_option linter.unusedVariables false
set_option linter.unusedSimpArgs false

set_option maxRecDepth 100000 in
set_option maxHeartbeats 1000000 in
theorem blanks_calls (g : Nat) (s : ByteArray) (k : Nat) (w : World) (hb : w.heap[g]? = some (.cells #[.string s, .int .i64 (k : Int)] 68 (0, 0)))
    (hs : s.size ≤ 140737488351232) (hk : k ≤ s.size) :
    Calls Try.prog 47 #[.pointer (some ⟨g, 0, none⟩)] w fun e w' =>
      e = .returned (.tuple #[]) ∧ w'.heap[g]? = some (.cells #[.string s, .int .i64 (blanksTo s k : Int)] 68 (0, 0)) ∧ w.grownBy w' (some g) := by
  have HB := Aside0.mk hb
  clear hb
  go_enter Try.func47, Try.ntmps47
  go_wp2
  go_loopw [22] (fun v wr => ∃ i : Nat, k ≤ i ∧ i ≤ s.size ∧ Aside0 (blanksTo s i = blanksTo s k) ∧ Aside0 (wr.heap[g]? = some (.cells #[.string s, .int .i64 (i : Int)] 68 (0, 0))) ∧ Aside0 (w.grownBy wr (some g)))
    (fun _ wr => s.size - atOf wr g)
  case atStart => exact ⟨k, Nat.le_refl _, hk, ⟨rfl⟩, HB, ⟨only_refl _ _⟩⟩
  case round =>
    obtain ⟨i, hi1, hi2, hr, hb, ho⟩ := hrel
    have c0 : wr.cell? ⟨g, 0, none⟩ = some (.string s) := (blk_cell hb.out 0).trans rfl
    have c1 : wr.cell? ⟨g, 1, none⟩ = some (.int .i64 (i : Int)) := (blk_cell hb.out 1).trans rfl
    have f1 : wr.frozen? ⟨g, 1, none⟩ = false := blk_frozen hb.out 1
    by_cases hlt : i < s.size
    · have hd : decide ((i : Int) < (s.size : Int)) = true := by simpa using hlt
      have hl2 : (i : Int) < (s.size : Int) := by omega
      go_wp2_with fail
      go_quiet (fail)
      go_wp2_with fail
      go_quiet (fail)
      go_wp2_with fail
      all_goals first
        | (have hst := blanksTo_blank' s i hlt (by first | (left; assumption) | (right; left; assumption) | (simp_all <;> omega))
           exact ⟨⟨i + 1, by omega, by omega, ⟨hst.trans hr.out⟩, ⟨adv (blk_drewN hb.out _)⟩, ⟨only_setCell (only_drewN ho.out _) (.inl rfl) _⟩⟩, by rw [atOf_of (adv (blk_drewN hb.out _)), atOf_of hb.out]; omega⟩)
        | (have h35 : (s[i] == 35) = true := by rw [show (35 : UInt8) = UInt8.ofNat 35 from rfl, u8_eq s[i] 35 (by omega)]; simp_all
           have hst := blanksTo_remark s i hlt h35
           have hlt2 := runTo_lt notBreak s i hlt (by rw [beq_iff_eq.1 h35]; decide)
           have hle := runTo_le notBreak s i hi2
           refine (run_remark g s i _ (blk_drewN hb.out _) hs hi2).mono ?_
           rintro e w1 ⟨rfl, h1, h2⟩
           have H1 := Aside0.mk h1
           have H2 := Aside0.mk h2
           have HS := Aside0.mk hst
           clear h1 h2 hst
           go_wp2
           exact ⟨⟨runTo notBreak s i, by omega, by omega, ⟨HS.out.trans hr.out⟩, H1, ⟨only_trans (only_drewN ho.out _) H2.out⟩⟩, by rw [atOf_of H1.out, atOf_of hb.out]; omega⟩)
        | (have hst := blanksTo_stop s i hlt (by
             have := u8_eq s[i] 32 (by omega); have := u8_eq s[i] 10 (by omega); have := u8_eq s[i] 9 (by omega); simp_all) (by have := u8_eq s[i] 35 (by omega); simp_all)
           refine bodyPost_ret (results_none rfl _ _ _) rfl ⟨rfl, ?_, ?_⟩
           · rw [← hr.out, hst]; exact hb.out
           · exact only_drewN ho.out _)
    · have hd : decide ((i : Int) < (s.size : Int)) = false := by simpa using hlt
      have hst := Aside0.mk (blanksTo_end s i (by omega))
      go_wp2_with fail
      go_quiet (fail)
      go_wp2
      go_end0
      exact ⟨rfl, by rw [← hr.out, hst.out]; exact hb.out, only_drewN ho.out _⟩

end Go.Proofs.Ytokkjnfdfbpphaa.A
namespace Go.Proofs.Ytokkjnfdfbpphaa.A
open Go.RowKit Go.Proofs.YtokkjnfdfbpphaaW.PrintWords Go.Proofs.YtokkjnfdfbpphaaW.PrintLast Go.Proofs.YtokkjnfdfbpphaaW.PrintMore
attribute [local go_sem] max2_int min2_int max_two min_two max_three min_three max_four min_four   -- for this text's walks alone
set_option linter.unusedVariables false
set_option linter.unusedSimpArgs false

def hexOk (a b : UInt8) : Bool := decide (0 ≤ hexVal a) && decide (0 ≤ hexVal b)
theorem hexOk_true {a b : UInt8} (h : (0 : Int) ≤ hexVal a) : hexOk a b = decide ((0 : Int) ≤ hexVal b) := by unfold hexOk; rw [decide_eq_true h]; rfl
theorem hexOk_false {a b : UInt8} (h : hexVal a < 0) : hexOk a b = false := by unfold hexOk; rw [decide_eq_false (by omega)]; rfl
theorem hex_q (c : UInt8) (w : World) : Calls Try.prog 53 #[.string ⟨#[48, 49, 50, 51, 52, 53, 54, 55, 56, 57, 97, 98, 99, 100, 101, 102]⟩, .int .u8 (c.toNat : Int)] w fun e w' => e = .returned (.int .i64 (hexVal c)) ∧ w' = w := by
  refine (Try.strings_IndexByte _ _ w).mono ?_
  rintro e w' ⟨rfl, rfl⟩
  refine ⟨?_, rfl⟩
  rw [← indexByte_hex]
  simp [hexSigns]
set_option maxRecDepth 100000 in
set_option maxHeartbeats 1000000 in
theorem escape_short (s : ByteArray) (w : World) (hs : s.size < 2) :
    Calls Try.prog 66 #[.string s] w fun e w' => e = .returned (.tuple #[.int .u8 0, .bool false]) ∧ ∃ n, w' = w.drewN n := by
  have hd : decide ((s.size : Int) < 2) = true := by simpa using (by omega : (s.size : Int) < 2)
  go_enter Try.func66, Try.ntmps66
  go_wp2
  go_ret2
  exact ⟨rfl, 0, rfl⟩
theorem or16 (a b : Int) (h0 : 0 ≤ a) (h1 : a ≤ 15) (h2 : 0 ≤ b) (h3 : b ≤ 15) : bits .or .i64 (a * 16) b % 256 = 16 * a + b := by
  have key : ∀ x y : Fin 16, bits .or .i64 ((x.1 : Int) * 16) (y.1 : Int) % 256 = 16 * (x.1 : Int) + (y.1 : Int) := by decide +kernel
  have := key ⟨a.toNat, by omega⟩ ⟨b.toNat, by omega⟩
  simp only [Int.toNat_of_nonneg h0, Int.toNat_of_nonneg h2] at this
  exact this
def escV (a b : UInt8) : Int := bits .or .i64 (hexVal a * 16) (hexVal b) % 256
theorem escV_eq (a b : UInt8) (h : hexOk a b = true) : ∃ v : UInt8, escV a b = (v.toNat : Int) ∧ escapeVal [a, b] = some v := by
  simp only [hexOk, Bool.and_eq_true, decide_eq_true_eq] at h
  have ha := hexVal_lt a; have hb := hexVal_lt b
  refine ⟨UInt8.ofNat (16 * (hexVal a).toNat + (hexVal b).toNat), ?_, ?_⟩
  · unfold escV; rw [or16 _ _ h.1 ha.2 h.2 hb.2, UInt8.toNat_ofNat']; omega
  · show (if 0 ≤ hexVal a ∧ 0 ≤ hexVal b then _ else _) = _; rw [if_pos h]
theorem escapeVal_none (a b : UInt8) (h : hexOk a b = false) : escapeVal [a, b] = none := by
  simp only [hexOk, Bool.and_eq_false_iff, decide_eq_false_iff_not] at h
  show (if 0 ≤ hexVal a ∧ 0 ≤ hexVal b then _ else _) = _; rw [if_neg (by omega)]
set_option maxRecDepth 100000 in
set_option maxHeartbeats 1000000 in
theorem escape_long (s : ByteArray) (w : World) (hs : 2 ≤ s.size) :
    Calls Try.prog 66 #[.string s] w fun e w' => e = .returned (.tuple #[.int .u8 (escV s[0] s[1]), .bool (hexOk s[0] s[1])]) ∧ ∃ n, w' = w.drewN n := by
  have hd : decide ((s.size : Int) < 2) = false := by simpa using (by omega : ¬ (s.size : Int) < 2)
  have h0 : 0 < s.size := by omega
  have h1 : 1 < s.size := by omega
  have h1i : (1 : Int) < (s.size : Int) := by omega
  have a0 := hexVal_lt s[0]
  have a1 := hexVal_lt s[1]
  by_cases ha : 0 ≤ hexVal s[0]
  · go_enter Try.func66, Try.ntmps66
    go_wp2
    go_quiet ((go_at_call 53; exact Calls.quiet_of_same (hex_q _ _)))
    go_wp2
    go_ret2
    exact ⟨by rw [hexOk_true (by simpa using ha)]; rfl, _, rfl⟩
  · have hb : decide (0 ≤ hexVal s[0]) = false := decide_eq_false ha
    go_enter Try.func66, Try.ntmps66
    go_wp2
    go_quiet ((go_at_call 53; exact Calls.quiet_of_same (hex_q _ _)))
    go_wp2
    go_ret2
    exact ⟨by rw [hexOk_false (by simpa using ha)]; rfl, _, rfl⟩
theorem escape_tail (s : ByteArray) (a : Nat) (w : World) (h : a + 1 < s.size) :
    Calls Try.prog 66 #[.string (s.extract a s.size)] w fun e w' => e = .returned (.tuple #[.int .u8 (escV s[a] s[a + 1]), .bool (hexOk s[a] s[a + 1])]) ∧ ∃ n, w' = w.drewN n := by
  have hz := extract_size s a (by omega)
  have g0 := extract_get s a 0 (by omega) (by omega)
  have g1 := extract_get s a 1 (by omega) (by omega)
  refine (escape_long (s.extract a s.size) w (by omega)).mono ?_
  rintro e w' ⟨rfl, hw⟩
  refine ⟨?_, hw⟩
  rw [g0, g1]; rfl
theorem escape_tail_short (s : ByteArray) (a : Nat) (w : World) (h : a ≤ s.size) (h2 : s.size < a + 2) :
    Calls Try.prog 66 #[.string (s.extract a s.size)] w fun e w' => e = .returned (.tuple #[.int .u8 0, .bool false]) ∧ ∃ n, w' = w.drewN n :=
  escape_short _ w (by have := extract_size s a h; omega)
def markIdx (c : UInt8) : Int := Lib.indexByte [61, 44, 40, 41, 91, 93, 59] c
theorem mark_q (c : UInt8) (w : World) : Calls Try.prog 53 #[.string ⟨#[61, 44, 40, 41, 91, 93, 59]⟩, .int .u8 (c.toNat : Int)] w fun e w' => e = .returned (.int .i64 (markIdx c)) ∧ w' = w := by
  refine (Try.strings_IndexByte _ _ w).mono ?_
  rintro e w' ⟨rfl, rfl⟩
  exact ⟨by simp [markIdx], rfl⟩
theorem markIdx_dec (c : UInt8) : decide (0 ≤ markIdx c) = isMark c := indexByte_mark c

end Go.Proofs.Ytokkjnfdfbpphaa.A
namespace Go.Proofs.Ytokkjnfdfbpphaa.A
open Go.RowKit Go.Proofs.YtokkjnfdfbpphaaW.PrintWords Go.Proofs.YtokkjnfdfbpphaaW.PrintLast Go.Proofs.YtokkjnfdfbpphaaW.PrintMore
attribute [local go_sem] max2_int min2_int max_two min_two max_three min_three max_four min_four   -- for this text's walks alone
set_option linter.unusedVariables false
set_option linter.unusedSimpArgs false

/-- A builder in block b (from B on) that holds the bytes l. -/
def Bld (B b : Nat) (l : List UInt8) (w : World) : Prop := Lib.IsBuilder 57 5 B b (Lib.byteCells l) w
theorem bld_keep {B b : Nat} {l : List UInt8} {w w1 : World} (h : Bld B b l w) (hb : Below w.heap.size w w1) : Bld B b l w1 := by
  have hg := grown_of_below hb none
  have go : ∀ p, Lib.BuilderAt 57 5 B b p (Lib.byteCells l) w → Lib.BuilderAt 57 5 B b p (Lib.byteCells l) w1 := by
    rintro p ⟨h1, v, h2, h3, h4⟩
    refine ⟨h1, v, blk_below h2 hb, ⟨h3.1, ?_⟩, h4⟩
    rcases h3.2 with h3 | ⟨g, cap, cur, hv, hg, hh, r⟩
    · exact .inl h3
    · exact .inr ⟨g, cap, cur, hv, hg, blk_below hh hb, r⟩
  exact h.imp (go _) (go _)
theorem bld_drewN {B b : Nat} {l : List UInt8} {w : World} (h : Bld B b l w) (n : Nat) : Bld B b l (w.drewN n) := bld_keep h ⟨rfl, rfl, rfl, Nat.le_refl _, fun _ _ => rfl⟩
theorem bld_drew {B b : Nat} {l : List UInt8} {w : World} (h : Bld B b l w) : Bld B b l w.drew := bld_keep h ⟨rfl, rfl, rfl, Nat.le_refl _, fun _ _ => rfl⟩
theorem bld_alloc {B b : Nat} {l : List UInt8} {w : World} (h : Bld B b l w) (o : Obj) : Bld B b l (w.alloc o) := bld_keep h ((Below.refl _ _).alloc (Nat.le_refl _) o)
theorem bld_new (w : World) : Bld w.heap.size w.heap.size [] (w.alloc (.cells #[.pointer none, .slice none 0 0] 57)) := Lib.fresh_isBuilder 57 5 w
theorem bld_lt {B b : Nat} {l : List UInt8} {w : World} (h : Bld B b l w) : B ≤ b ∧ b < w.heap.size := by rcases h with h | h <;> exact ⟨h.1, h.lt⟩
/-- Each block that is not b and no row of bytes stands as it stood. -/
def OtherBlk (b : Nat) (w w' : World) : Prop := ∀ (k : Nat) cs T fz, w.heap[k]? = some (.cells cs T fz) → k ≠ b → T ≠ 5 → w'.heap[k]? = some (.cells cs T fz)
theorem info57 : ∃ j, Try.prog.info? 57 = some j ∧ j.size = 2 := by
  have h : (Try.prog.info? 57).map (·.size) = some 2 := by kernel_rfl
  exact Option.map_eq_some_iff.1 h
set_option maxHeartbeats 1000000 in
set_option maxRecDepth 100000 in
theorem copyCheck_used (b : Nat) (w : World) (h0 : w.cell? ⟨b, 0, none⟩ = some (.pointer (some ⟨b, 0, none⟩))) :
    Calls Try.prog 46 #[.pointer (some ⟨b, 0, none⟩)] w fun e w' => e = .returned (.tuple #[]) ∧ w' = w := by
  obtain ⟨j, hj, _⟩ := info57
  go_enter Try.func46, Try.ntmps46
  go_wp2
  rw [Lib.run_neq_ptr_same w _ Try.underlying54 hj]
  go_wp2
  go_end0
  exact ⟨rfl, rfl⟩
set_option maxHeartbeats 1000000 in
set_option maxRecDepth 100000 in
theorem copyCheck_fresh (b : Nat) (w : World) (h0 : w.cell? ⟨b, 0, none⟩ = some (.pointer none)) (hsh : w.shape? b = some (57, 2)) (hfz : w.frozen? ⟨b, 0, none⟩ = false) :
    Calls Try.prog 46 #[.pointer (some ⟨b, 0, none⟩)] w fun e w' => e = .returned (.tuple #[]) ∧ w' = w.setCell ⟨b, 0, none⟩ (.pointer (some ⟨b, 0, none⟩)) := by
  obtain ⟨j, hj, hjs⟩ := info57
  go_enter Try.func46, Try.ntmps46
  go_wp2
  rw [Lib.run_to_unsafe w ⟨b, 0, none⟩ Try.underlying54 Try.underlying103 hj (by rw [hjs]; decide) hsh (Nat.zero_lt_succ 1)]
  go_wp2
  rw [run_callFunc_extern Try.func64 (by kernel_rfl) (by kernel_rfl) (by kernel_rfl) (e := Extern.AbiNoEscape.same) (by kernel_rfl), Lib.run_noEscape]
  go_wp2
  rw [Lib.run_from_unsafe w ⟨b, 0, none⟩ Try.underlying103 Try.underlying54 hj hsh (by kernel_rfl)]
  go_wp2
  go_end0
  exact ⟨rfl, rfl⟩
theorem copyCheck_calls (B b : Nat) (bs : List Value) (w : World) (h : Lib.IsBuilder 57 5 B b bs w) :
    Calls Try.prog 46 #[.pointer (some ⟨b, 0, none⟩)] w fun e w' => e = .returned (.tuple #[]) ∧ (Lib.BuilderAt 57 5 B b (.pointer (some ⟨b, 0, none⟩)) bs w' ∧ Below B w w' ∧ ∀ k, k ≠ b → w'.heap[k]? = w.heap[k]?) := by
  rcases h with h | h
  · refine (copyCheck_fresh b w h.cell0 h.shape h.frozen0).mono ?_
    rintro e w' ⟨rfl, rfl⟩
    exact ⟨rfl, h.used _, (Below.refl B w).setCell (p := ⟨b, 0, none⟩) h.1 _, fun k hk => Below.heap_setCell _ _ _ _ hk⟩
  · refine (copyCheck_used b w h.cell0).mono ?_
    rintro e w' ⟨rfl, rfl⟩
    exact ⟨rfl, h, Below.refl B _, fun _ _ => rfl⟩
set_option maxHeartbeats 2000000 in
set_option maxRecDepth 100000 in
theorem bld_byte (B b : Nat) (l : List UInt8) (c : UInt8) (w : World) (h : Bld B b l w) (hlen : l.length + 1 ≤ 140737488355328) (hBw : B ≤ w.heap.size) :
    Calls Try.prog 25 #[.pointer (some ⟨b, 0, none⟩), .int .u8 (c.toNat : Int)] w fun e w' => e = .returned .nilIface ∧ Bld B b (l ++ [c]) w' ∧ Below B w w' := by
  have hbl : (Lib.byteCells l).length = l.length := by simp [Lib.byteCells]
  have hbc : Lib.byteCells (l ++ [c]) = Lib.byteCells l ++ [.int .u8 (c.toNat : Int)] := by simp [Lib.byteCells]
  obtain ⟨i0, hi, hz0, hz1, hz2⟩ := info_parts info5
  have HC := Aside0.mk hbc
  clear hbc
  have HL := Aside0.mk hbl
  clear hbl
  go_enter Try.func25, Try.ntmps25
  go_wp2_with (go_at_call 46; refine (copyCheck_calls B b _ _ h).mono ?_)
  rintro e w1 ⟨rfl, h1, hb1, hk1⟩
  have HK1 := Aside0.mk hk1
  clear hk1
  obtain ⟨hB, v, hbk, hown, hne⟩ := h1
  have c0 : w1.cell? ⟨b, 0, none⟩ = some (.pointer (some ⟨b, 0, none⟩)) := by rw [Lib.cell_of_heap hbk]; rfl
  have c1 : w1.cell? ⟨b, 1, none⟩ = some v := by rw [Lib.cell_of_heap hbk]; rfl
  go_wp2_with (at_builtin; refine wpList_append_own _ rfl _ _ 55 rfl B 5 i0 (.int .u8 0) 1 1 Try.underlying55 hi hz0 hz1 hz2 rfl (by decide) _ _ _ rfl (hown.alloc _) ⟨w1.heap.size, 0, none⟩ 1 1 [.int .u8 (c.toNat : Int)] rfl rfl ?c1 ?c2 ?c3 ?c4 ?c5 ?_)
  case c1 =>
    intro j u hj
    match j, hj with
    | 0, hj => simp at hj; subst hj; simp [Addr.add]
  case c2 => intro u hu; simp at hu; subst hu; rfl
  case c3 => rw [HL.out]; unfold maxLen; omega
  case c4 => rw [HL.out]; omega
  case c5 => have := hb1.size; simp; omega
  intro v' w2 hown' hgrow _
  have hlt : b < w1.heap.size := blk_lt hbk
  have hb2 : w2.heap[b]? = some (.cells #[.pointer (some ⟨b, 0, none⟩), v] 57 (0, 0)) := by
    rw [hgrow.block b (by simp; omega) (fun e => hne e.symm), Lib.alloc_old w1 _ b hlt]
    exact hbk
  have d0 : w2.cell? ⟨b, 0, none⟩ = some (.pointer (some ⟨b, 0, none⟩)) := by rw [Lib.cell_of_heap hb2]; rfl
  have d1 : w2.cell? ⟨b, 1, none⟩ = some v := by rw [Lib.cell_of_heap hb2]; rfl
  have f1 : w2.frozen? ⟨b, 1, none⟩ = false := Lib.frozen_of_heap hb2 1
  obtain ⟨g, cap, rfl⟩ : ∃ g cap, v' = .slice (some ⟨g, 0, none⟩) ((Lib.byteCells l).length + 1) cap := by
    rcases hown'.2 with ⟨_, h0⟩ | ⟨g, cap, cur, hv, _⟩
    · omega
    · exact ⟨g, cap, hv⟩
  go_wp2
  go_ret
  refine ⟨rfl, .inr ?_, ?_⟩
  · rw [HC.out]
    exact Lib.BuilderAt.put (T := 57) (e := 5) hB hb2 (bs' := Lib.byteCells l ++ [.int .u8 (c.toNat : Int)]) (by simpa using hown') (by decide)
  · exact ((hb1.alloc (by have := hb1.size; omega) _).grown hgrow (by have := hb1.size; simp; omega) (fun k hk => (hown.lt k hk).1)).setCell (p := ⟨b, 1, none⟩) hB _
set_option maxHeartbeats 2000000 in
set_option maxRecDepth 100000 in
theorem bld_str_full (B b : Nat) (l : List UInt8) (s : ByteArray) (w : World) (h : Bld B b l w) (hlen : l.length + s.size ≤ 140737488355328) (hBw : B ≤ w.heap.size) :
    Calls Try.prog 27 #[.pointer (some ⟨b, 0, none⟩), .string s] w fun e w' => e = .returned (.tuple #[.int .i64 s.size, .nilIface]) ∧ Bld B b (l ++ s.data.toList) w' ∧ Below B w w' ∧ OtherBlk b w w' := by
  have hbl : (Lib.byteCells l).length = l.length := by simp [Lib.byteCells]
  have hbc : Lib.byteCells (l ++ s.data.toList) = Lib.byteCells l ++ Lib.strCells s := by simp [Lib.byteCells, Lib.strCells]
  obtain ⟨i0, hi, hz0, hz1, hz2⟩ := info_parts info5
  have HC := Aside0.mk hbc
  clear hbc
  have HL := Aside0.mk hbl
  clear hbl
  go_enter Try.func27, Try.ntmps27
  go_wp2_with (go_at_call 46; refine (copyCheck_calls B b _ _ h).mono ?_)
  rintro e w1 ⟨rfl, h1, hb1, hk1⟩
  have HK1 := Aside0.mk hk1
  clear hk1
  obtain ⟨hB, v, hbk, hown, hne⟩ := h1
  have c0 : w1.cell? ⟨b, 0, none⟩ = some (.pointer (some ⟨b, 0, none⟩)) := by rw [Lib.cell_of_heap hbk]; rfl
  have c1 : w1.cell? ⟨b, 1, none⟩ = some v := by rw [Lib.cell_of_heap hbk]; rfl
  go_wp2_with (at_builtin; refine Lib.wpList_append_own_string _ rfl _ _ 55 9 rfl B 5 i0 Try.underlying55 Try.underlying9 hi hz0 hz1 hz2 _ _ _ rfl hown s rfl ?c3 ?c4 ?c5 ?_)
  case c3 => rw [HL.out]; unfold maxLen; omega
  case c4 => rw [HL.out]; omega
  case c5 => exact Nat.le_trans hBw hb1.size
  intro v' w2 hown' hgrow _
  have hb2 : w2.heap[b]? = some (.cells #[.pointer (some ⟨b, 0, none⟩), v] 57 (0, 0)) := (hgrow.block b (blk_lt hbk) (fun e => hne e.symm)).trans hbk
  have d0 : w2.cell? ⟨b, 0, none⟩ = some (.pointer (some ⟨b, 0, none⟩)) := by rw [Lib.cell_of_heap hb2]; rfl
  have d1 : w2.cell? ⟨b, 1, none⟩ = some v := by rw [Lib.cell_of_heap hb2]; rfl
  have f1 : w2.frozen? ⟨b, 1, none⟩ = false := Lib.frozen_of_heap hb2 1
  obtain ⟨ao, n, cap, rfl⟩ : ∃ ao n cap, v' = .slice ao n cap := by
    rcases hown'.2 with ⟨h, _⟩ | ⟨g, cap, cur, hv, _⟩
    · exact ⟨none, 0, 0, h⟩
    · exact ⟨_, _, cap, hv⟩
  go_wp2
  go_ret2
  refine ⟨rfl, .inr ?_, ?_, ?_⟩
  · rw [HC.out]
    exact Lib.BuilderAt.put (T := 57) (e := 5) hB hb2 (bs' := Lib.byteCells l ++ Lib.strCells s) (by simpa [Lib.strCells_length] using hown') (by decide)
  · exact (hb1.grown hgrow (Nat.le_trans hBw hb1.size) (fun k hk => (hown.lt k hk).1)).setCell (p := ⟨b, 1, none⟩) hB _
  · intro k cs T fz hk hne2 hT
    rw [Below.heap_setCell _ _ _ _ hne2]
    have hk1 := (HK1.out k hne2).trans hk
    refine (hgrow.block k (blk_lt hk1) (fun e => ?_)).trans hk1
    obtain ⟨cells, hc⟩ := own_typed hown k e.symm
    rw [hk1] at hc
    simp only [Option.some.injEq, Obj.cells.injEq] at hc
    exact hT hc.2.1
theorem bld_str (B b : Nat) (l : List UInt8) (s : ByteArray) (w : World) (h : Bld B b l w) (hlen : l.length + s.size ≤ 140737488355328) (hBw : B ≤ w.heap.size) :
    Calls Try.prog 27 #[.pointer (some ⟨b, 0, none⟩), .string s] w fun e w' => e = .returned (.tuple #[.int .i64 s.size, .nilIface]) ∧ Bld B b (l ++ s.data.toList) w' ∧ Below B w w' :=
  (bld_str_full B b l s w h hlen hBw).mono fun _ _ ⟨h1, h2, h3, _⟩ => ⟨h1, h2, h3⟩
theorem bld_string (B b : Nat) (l : List UInt8) (w : World) (h : Bld B b l w) (hBw : B ≤ w.heap.size) :
    Calls Try.prog 28 #[.pointer (some ⟨b, 0, none⟩)] w fun e w' => e = .returned (.string ⟨l.toArray⟩) ∧ Below B w w' := Try.Builder_String_any B b l w h hBw
theorem bld_set {B b : Nat} {l : List UInt8} {w : World} (h : Bld B b l w) {p : Addr} (hp : p.block < B) (u : Value) : Bld B b l (w.setCell p u) := by
  have go : ∀ q, Lib.BuilderAt 57 5 B b q (Lib.byteCells l) w → Lib.BuilderAt 57 5 B b q (Lib.byteCells l) (w.setCell p u) := by
    rintro q ⟨h1, v, h2, h3, h4⟩
    exact ⟨h1, v, (Below.heap_setCell _ _ _ _ (by omega)).trans h2, ownsRow_setCell_below h3 hp u, h4⟩
  exact h.imp (go _) (go _)
theorem bld_new_set (w : World) (p : Addr) (u : Value) : Bld w.heap.size w.heap.size [] ((w.setCell p u).alloc (.cells #[.pointer none, .slice none 0 0] 57)) := by
  have h := bld_new (w.setCell p u)
  have e : (w.setCell p u).heap.size = w.heap.size := by simp [World.setCell]
  rwa [e] at h

end Go.Proofs.Ytokkjnfdfbpphaa.A
namespace Go.Proofs.Ytokkjnfdfbpphaa.A
open Go.RowKit Go.Proofs.YtokkjnfdfbpphaaW.PrintWords Go.Proofs.YtokkjnfdfbpphaaW.PrintLast Go.Proofs.YtokkjnfdfbpphaaW.PrintMore
attribute [local go_sem] max2_int min2_int max_two min_two max_three min_three max_four min_four   -- for this text's walks alone
set_option linter.unusedVariables false
set_option linter.unusedSimpArgs false

def QuotePost (s : ByteArray) (k g : Nat) (e : Ending) (w' : World) : Prop :=
  match unqAt s k with
  | some (l, j) => e = .returned (.tuple #[.string ⟨l.toArray⟩, .bool true]) ∧ w'.heap[g]? = some (.cells #[.string s, .int .i64 (j : Int)] 68 (0, 0))
  | none => e = .returned (.tuple #[.string ⟨#[]⟩, .bool false]) ∧ ∃ j : Nat, w'.heap[g]? = some (.cells #[.string s, .int .i64 (j : Int)] 68 (0, 0))
theorem quote_fail {s : ByteArray} {k i g : Nat} {acc : List UInt8} {w' : World} (hr : unqAt s k = (unqAt s i).map fun p => (acc ++ p.1, p.2)) (h : unqAt s i = none)
    {j : Nat} (hb : w'.heap[g]? = some (.cells #[.string s, .int .i64 (j : Int)] 68 (0, 0))) : QuotePost s k g (.returned (.tuple #[.string ⟨#[]⟩, .bool false])) w' := by
  unfold QuotePost; rw [hr, h]; exact ⟨rfl, j, hb⟩
set_option maxRecDepth 100000 in
set_option maxHeartbeats 2000000 in
theorem quote_calls (g : Nat) (s : ByteArray) (k : Nat) (w : World) (hb : w.heap[g]? = some (.cells #[.string s, .int .i64 (k : Int)] 68 (0, 0)))
    (hs : s.size ≤ 140737488351232) (hk : k < s.size) :
    Calls Try.prog 52 #[.pointer (some ⟨g, 0, none⟩)] w fun e w' => QuotePost s (k + 1) g e w' ∧ w.grownBy w' (some g) := by
  have hgl := blk_lt hb
  have HB := Aside0.mk (blk_alloc (adv hb) (.cells #[.pointer none, .slice none 0 0] 57))
  have HN := Aside0.mk (bld_new_set w ⟨g, 1, none⟩ (.int .i64 ((k : Int) + 1)))
  have HO := Aside0.mk (only_alloc (only_setCell (g := g) (only_refl w (some g)) (p := ⟨g, 1, none⟩) (.inl rfl) (.int .i64 ((k : Int) + 1))) (.cells #[.pointer none, .slice none 0 0] 57))
  have c1 : (w.alloc (.cells #[.pointer none, .slice none 0 0] 57)).cell? ⟨g, 1, none⟩ = some (.int .i64 (k : Int)) := (blk_cell (blk_alloc hb _) 1).trans rfl
  have f1 : (w.alloc (.cells #[.pointer none, .slice none 0 0] 57)).frozen? ⟨g, 1, none⟩ = false := blk_frozen (blk_alloc hb _) 1
  clear hb
  go_enter Try.func52, Try.ntmps52
  go_wp2
  go_loopw [24] (fun v wr => ∃ (i : Nat) (acc : List UInt8), k < i ∧ i ≤ s.size ∧ acc.length ≤ i ∧ Aside0 (unqAt s (k + 1) = (unqAt s i).map fun p => (acc ++ p.1, p.2)) ∧ Aside0 (wr.heap[g]? = some (.cells #[.string s, .int .i64 (i : Int)] 68 (0, 0))) ∧ Aside0 (Bld w.heap.size w.heap.size acc wr) ∧ Aside0 (w.grownBy wr (some g)))
    (fun _ wr => s.size - atOf wr g)
  case atStart => exact ⟨k + 1, [], by omega, by omega, by simp, ⟨by simp⟩, HB, HN, HO⟩
  case round =>
    clear c1 f1 HB HN HO
    obtain ⟨i, acc, hi1, hi2, hal, hr, hb, hbl, ho⟩ := hrel
    have c0 : wr.cell? ⟨g, 0, none⟩ = some (.string s) := (blk_cell hb.out 0).trans rfl
    have c1 : wr.cell? ⟨g, 1, none⟩ = some (.int .i64 (i : Int)) := (blk_cell hb.out 1).trans rfl
    have f1 : wr.frozen? ⟨g, 1, none⟩ = false := blk_frozen hb.out 1
    by_cases hlt : i < s.size
    · have hd : decide ((i : Int) < (s.size : Int)) = true := by simpa using hlt
      have hl2 : (i : Int) < (s.size : Int) := by omega
      go_wp2_with fail
      go_quiet (fail)
      obtain ⟨n1, rfl⟩ : ∃ n1, n1 = nq := ⟨_, rfl⟩
      go_wp2_with fail
      go_quiet (fail)
      obtain ⟨n2, rfl⟩ : ∃ n2, n2 = nq := ⟨_, rfl⟩
      by_cases h34 : s[i] = 34
      · have hst := unqAt_close s i hlt h34
        have e34 : ((s[i].toNat : Int) == 34) = true := by rw [h34]; rfl
        go_wp2_with fail
        have HO1 := Aside0.mk (only_setCell (g := g) (only_drewN ho.out (n1 + n2)) (p := ⟨g, 1, none⟩) (.inl rfl) (.int .i64 ((i : Int) + 1)))
        have HB1 := Aside0.mk (adv (blk_drewN hb.out (n1 + n2)))
        refine (bld_string w.heap.size w.heap.size acc _ (bld_set (bld_drewN hbl.out _) hgl _) HO1.out.size).mono ?_
        rintro e w2 ⟨rfl, hw2⟩
        go_wp2
        refine bodyPost_ret (results_tmp2 rfl _ _ _) rfl ⟨?_, only_below HO1.out hw2⟩
        unfold QuotePost
        rw [hr.out, hst]
        exact ⟨by simp, (hw2.block g hgl).trans HB1.out⟩
      have e34 : ((s[i].toNat : Int) == 34) = false := u8_ne s[i] 34 h34
      by_cases h92 : s[i] = 92
      · have e92 : ((s[i].toNat : Int) == 92) = true := by rw [h92]; rfl
        go_wp2_with fail
        by_cases hl1 : i + 1 < s.size
        · have hd1 : decide ((s.size : Int) ≤ (i : Int) + 1) = false := by simp; omega
          have hl3 : (i : Int) + 1 < (s.size : Int) := by omega
          have hz : (0 : Int) ≤ (i : Int) + 1 := by omega
          by_cases h120 : s[i + 1] = 120
          · have e120 : ((s[i + 1].toNat : Int) != 120) = false := u8_bneF s[i + 1] 120 h120
            go_quiet (fail)
            obtain ⟨n3, rfl⟩ : ∃ n3, n3 = nq := ⟨_, rfl⟩
            go_wp2_with fail
            have hl5 : (i : Int) + 2 ≤ (s.size : Int) := by omega
            by_cases hl4 : i + 3 < s.size
            · have hst := Aside0.mk (unqAt_esc s i hl4 h92)
              have hq0 : (0 : Int) ≤ (i : Int) + 2 := by omega
              have hqw : IntKind.i64.wrap ((i : Int) + 2) = (i : Int) + 2 := by rw [IntKind.wrap_i64]; omega
              have hqt : ((i : Int) + 2).toNat = i + 2 := by omega
              go_quiet ((go_at_call 66; exact quiet_add (escape_tail s (i + 2) _ (by omega))))
              obtain ⟨n4, rfl⟩ : ∃ n4, n4 = nq := ⟨_, rfl⟩
              clear hqw hqt
              cases hok : hexOk s[i + 2] s[i + 2 + 1] with
              | false =>
                have hst2 := Aside0.mk (show unqAt s i = none by rw [hst.out, if_pos h120, escapeVal_none _ _ hok])
                go_wp2_with fail
                go_ret2
                exact ⟨quote_fail hr.out hst2.out hb.out, only_drewN ho.out _⟩
              | true =>
                obtain ⟨v, hv, hv2⟩ := escV_eq _ _ hok
                have hst2 : Aside0 (unqAt s i = if isPlain v then none else (unqAt s (i + 4)).map fun p => (v :: p.1, p.2)) := ⟨hst.out.trans (by rw [if_pos h120, hv2])⟩
                rw [hv]
                clear hv hv2 hok
                go_wp2_with fail
                refine (plain_q v _).mono ?_
                rintro e w2 ⟨rfl, n5, rfl⟩
                cases hp : isPlain v with
                | true =>
                  have hst3 : Aside0 (unqAt s i = none) := ⟨hst2.out.trans (by rw [if_pos hp])⟩
                  clear hp
                  go_wp2_with fail
                  go_ret2
                  exact ⟨quote_fail hr.out hst3.out hb.out, only_drewN ho.out _⟩
                | false =>
                  have hst3 : Aside0 (unqAt s i = (unqAt s (i + 4)).map fun p => (v :: p.1, p.2)) := ⟨hst2.out.trans (by rw [if_neg (by simp [hp])])⟩
                  clear hp
                  go_wp2_with fail
                  refine (bld_byte w.heap.size w.heap.size acc v _ (bld_drewN hbl.out _) (by omega) ho.out.size).mono ?_
                  rintro e w3 ⟨rfl, hb3, hw3⟩
                  have HB3 := Aside0.mk hb3
                  have HO3 : Aside0 (w.grownBy w3 (some g)) := ⟨only_below (only_drewN ho.out _) hw3⟩
                  have HG3 : Aside0 (w3.heap[g]? = some (.cells #[.string s, .int .i64 (i : Int)] 68 (0, 0))) := ⟨(hw3.block g hgl).trans (blk_drewN hb.out _)⟩
                  have d1 : w3.cell? ⟨g, 1, none⟩ = some (.int .i64 (i : Int)) := (blk_cell HG3.out 1).trans rfl
                  have g1 : w3.frozen? ⟨g, 1, none⟩ = false := blk_frozen HG3.out 1
                  clear hb3 hw3
                  go_wp2_with fail
                  have HG4 : Aside0 ((w3.setCell ⟨g, 1, none⟩ (.int .i64 ((i : Int) + 4))).heap[g]? = some (.cells #[.string s, .int .i64 ((i + 4 : Nat) : Int)] 68 (0, 0))) := ⟨by simpa using blk_put HG3.out 1 _ rfl⟩
                  go_roundw
                  case rel => exact ⟨i + 4, acc ++ [v], by omega, by omega, by simp; omega, ⟨by rw [hr.out, hst3.out, Option.map_map]; congr 1; funext p; simp⟩, HG4, ⟨bld_set HB3.out hgl _⟩, ⟨only_setCell HO3.out (.inl rfl) _⟩⟩
                  case measure => rw [atOf_of HG4.out, atOf_of hb.out]; omega
            · have hst := Aside0.mk (unqAt_cut s i hlt h92 (by omega))
              have hq0 : (0 : Int) ≤ (i : Int) + 2 := by omega
              have hqw : IntKind.i64.wrap ((i : Int) + 2) = (i : Int) + 2 := by rw [IntKind.wrap_i64]; omega
              have hqt : ((i : Int) + 2).toNat = i + 2 := by omega
              go_quiet ((go_at_call 66; exact quiet_add (escape_tail_short s (i + 2) _ (by omega) (by omega))))
              clear hqw hqt
              go_wp2_with fail
              go_ret2
              exact ⟨quote_fail hr.out hst.out hb.out, only_drewN ho.out _⟩
          · have e120 : ((s[i + 1].toNat : Int) != 120) = true := u8_bne s[i + 1] 120 h120
            have hst := Aside0.mk (unqAt_no120 s i hl1 h92 h120)
            go_quiet (fail)
            go_wp2_with fail
            go_ret2
            exact ⟨quote_fail hr.out hst.out hb.out, only_drewN (only_drewN ho.out _) _⟩
        · have hd1 : decide ((s.size : Int) ≤ (i : Int) + 1) = true := by simp; omega
          have hst := Aside0.mk (unqAt_cut s i hlt h92 (by omega))
          go_quiet (fail)
          go_wp2_with fail
          go_ret2
          exact ⟨quote_fail hr.out hst.out hb.out, only_drewN (only_drewN ho.out _) _⟩
      · have e92 : ((s[i].toNat : Int) == 92) = false := u8_ne s[i] 92 h92
        go_wp2_with fail
        refine (plain_q s[i] _).mono ?_
        rintro e w2 ⟨rfl, n3, rfl⟩
        cases hp : isPlain s[i] with
        | true =>
          have hst := Aside0.mk (unqAt_plain s i hlt h34 h92 hp)
          clear hp h34 h92
          go_wp2_with fail
          refine (bld_byte w.heap.size w.heap.size acc s[i] _ (bld_drewN hbl.out _) (by omega) ho.out.size).mono ?_
          rintro e w3 ⟨rfl, hb3, hw3⟩
          have HB3 := Aside0.mk hb3
          have HO3 : Aside0 (w.grownBy w3 (some g)) := ⟨only_below (only_drewN ho.out _) hw3⟩
          have HG3 : Aside0 (w3.heap[g]? = some (.cells #[.string s, .int .i64 (i : Int)] 68 (0, 0))) := ⟨(hw3.block g hgl).trans (blk_drewN hb.out _)⟩
          have d1 : w3.cell? ⟨g, 1, none⟩ = some (.int .i64 (i : Int)) := (blk_cell HG3.out 1).trans rfl
          have g1 : w3.frozen? ⟨g, 1, none⟩ = false := blk_frozen HG3.out 1
          clear hb3 hw3
          go_wp2_with fail
          go_roundw
          case rel => exact ⟨i + 1, acc ++ [s[i]], by omega, by omega, by simp; omega, ⟨by rw [hr.out, hst.out, Option.map_map]; congr 1; funext p; simp⟩, ⟨adv HG3.out⟩, ⟨bld_set HB3.out hgl _⟩, ⟨only_setCell HO3.out (.inl rfl) _⟩⟩
          case measure => rw [atOf_of (adv HG3.out), atOf_of hb.out]; omega
        | false =>
          have hst := Aside0.mk (unqAt_odd s i hlt h34 h92 hp)
          clear hp h34 h92
          go_wp2_with fail
          go_ret2
          exact ⟨quote_fail hr.out hst.out hb.out, only_drewN ho.out _⟩
    · have hd : decide ((i : Int) < (s.size : Int)) = false := by simpa using hlt
      have hst := Aside0.mk (unqAt_end s i (by omega))
      go_wp2_with fail
      go_quiet (fail)
      go_wp2
      go_ret2
      exact ⟨quote_fail hr.out hst.out hb.out, only_drewN ho.out _⟩

end Go.Proofs.Ytokkjnfdfbpphaa.A
namespace Go.Proofs.Ytokkjnfdfbpphaa.A
open Go.RowKit Go.Proofs.YtokkjnfdfbpphaaW.PrintWords Go.Proofs.YtokkjnfdfbpphaaW.PrintLast Go.Proofs.YtokkjnfdfbpphaaW.PrintMore
attribute [local go_sem] max2_int min2_int max_two min_two max_three min_three max_four min_four   -- for this text's walks alone
set_option linter.unusedVariables false
set_option linter.unusedSimpArgs false

def tokV (k : Int) (t : List UInt8) (a : Nat) : Value := .agg #[.int .i64 k, .string ⟨t.toArray⟩, .int .i64 (a : Int)]
def NextPost (s : ByteArray) (k g : Nat) (e : Ending) (w' : World) : Prop :=
  if blanksTo s k = s.size then e = .returned (.tuple #[.agg #[.int .i64 0, .string ⟨#[]⟩, .int .i64 0], .bool false, .int .i64 0]) ∧ w'.heap[g]? = some (.cells #[.string s, .int .i64 (s.size : Int)] 68 (0, 0))
  else match tokAt s (blanksTo s k) with
    | none => e = .returned (.tuple #[.agg #[.int .i64 0, .string ⟨#[]⟩, .int .i64 (blanksTo s k : Int)], .bool false, .int .i64 4])
    | some (kind, text, j) => e = .returned (.tuple #[.agg #[.int .i64 kind, .string ⟨text.toArray⟩, .int .i64 (blanksTo s k : Int)], .bool true, .int .i64 0]) ∧ w'.heap[g]? = some (.cells #[.string s, .int .i64 (j : Int)] 68 (0, 0))
theorem tok3 {w : World} {b : Nat} {x y z : Value} {T : TypeId} (h : w.heap[b]? = some (.cells #[x, y, z] T (0, 0))) :
    w.cell? ⟨b, 0, none⟩ = some x ∧ w.cell? ⟨b, 1, none⟩ = some y ∧ w.cell? ⟨b, 2, none⟩ = some z ∧ w.frozen? ⟨b, 0, none⟩ = false ∧ w.frozen? ⟨b, 1, none⟩ = false ∧ w.frozen? ⟨b, 2, none⟩ = false :=
  ⟨(blk_cell h 0).trans rfl, (blk_cell h 1).trans rfl, (blk_cell h 2).trans rfl, blk_frozen h 0, blk_frozen h 1, blk_frozen h 2⟩
theorem lex2 {w : World} {g : Nat} {s : ByteArray} {v : Value} (h : w.heap[g]? = some (.cells #[.string s, v] 68 (0, 0))) :
    w.cell? ⟨g, 0, none⟩ = some (.string s) ∧ w.cell? ⟨g, 1, none⟩ = some v ∧ w.frozen? ⟨g, 1, none⟩ = false :=
  ⟨(blk_cell h 0).trans rfl, (blk_cell h 1).trans rfl, blk_frozen h 1⟩
theorem only_three {a w : World} {g b : Nat} (h : a.grownBy w (some g)) (hb : a.heap.size ≤ b) (x y z : Value) :
    a.grownBy (((w.setCell ⟨b, 0, none⟩ x).setCell ⟨b, 1, none⟩ y).setCell ⟨b, 2, none⟩ z) (some g) :=
  only_setCell (only_setCell (only_setCell h (.inr hb) _) (.inr hb) _) (.inr hb) _
theorem far_three {w : World} {g b : Nat} {o : Obj} (h : w.heap[g]? = some o) (hne : g ≠ b) (x y z : Value) :
    (((w.setCell ⟨b, 0, none⟩ x).setCell ⟨b, 1, none⟩ y).setCell ⟨b, 2, none⟩ z).heap[g]? = some o := by
  rw [Below.heap_setCell _ _ _ _ hne, Below.heap_setCell _ _ _ _ hne, Below.heap_setCell _ _ _ _ hne]; exact h
set_option maxRecDepth 100000 in
set_option maxHeartbeats 2000000 in
theorem next_end (g : Nat) (s : ByteArray) (k : Nat) (w : World) (hb : w.heap[g]? = some (.cells #[.string s, .int .i64 (k : Int)] 68 (0, 0)))
    (hs : s.size ≤ 140737488351232) (hk : k ≤ s.size) (hj : blanksTo s k = s.size) :
    Calls Try.prog 29 #[.pointer (some ⟨g, 0, none⟩)] w fun e w' => NextPost s k g e w' ∧ w.grownBy w' (some g) := by
  have hgl := blk_lt hb
  have HB0 := Aside0.mk (blk_alloc hb (.cells #[.int .i64 0, .string ⟨#[]⟩, .int .i64 0] 28))
  clear hb
  go_enter Try.func29, Try.ntmps29
  go_wp2_with (go_at_call 47; refine (blanks_calls g s k _ HB0.out hs hk).mono ?_)
  rintro e w1 ⟨rfl, hb1, ho1⟩
  rw [hj] at hb1
  have hn1 := blk_grown (blk_new w _) ho1 (by simp; omega)
  have HB1 := Aside0.mk hb1
  have HO1 := Aside0.mk (only_trans (only_alloc (only_refl w (some g)) _) ho1)
  have HJ := Aside0.mk hj
  obtain ⟨c0, c1, f1⟩ := lex2 hb1
  obtain ⟨d0, d1, d2, e0, e1, e2⟩ := tok3 hn1
  clear hb1 ho1 hn1 hj HB0
  have hq : ((s.size : Int) == (s.size : Int)) = true := by simp
  go_wp2_with fail
  go_quiet (fail)
  go_wp2_with fail
  refine bodyPost_ret (v := .tuple #[.agg #[.int .i64 0, .string ⟨#[]⟩, .int .i64 0], .bool false, .int .i64 0]) (by simp [results, Try.results29, go_sem, d0, d1, d2]) rfl ⟨?_, only_three (only_drewN HO1.out _) (Nat.le_refl _) _ _ _⟩
  unfold NextPost
  rw [if_pos HJ.out]
  exact ⟨rfl, far_three (blk_drewN HB1.out _) (by omega) _ _ _⟩
/-- In the midst of next: the lexer at a, the result's block at zero, the token's block B. -/
structure NSt (w : World) (g B : Nat) (s : ByteArray) (a : Nat) (kd : Int) (tx : ByteArray) (j : Nat) (W : World) : Prop where
  lex : W.heap[g]? = some (.cells #[.string s, .int .i64 (a : Int)] 68 (0, 0))
  res : W.heap[w.heap.size]? = some (.cells #[.int .i64 0, .string ⟨#[]⟩, .int .i64 0] 28 (0, 0))
  tok : W.heap[B]? = some (.cells #[.int .i64 kd, .string tx, .int .i64 (j : Int)] 28 (0, 0))
  only : w.grownBy W (some g)
  lt : w.heap.size < B
theorem NSt.drewN {w W : World} {g B a j : Nat} {s tx : ByteArray} {kd : Int} (h : NSt w g B s a kd tx j W) (n : Nat) : NSt w g B s a kd tx j (W.drewN n) :=
  ⟨h.lex, h.res, h.tok, only_drewN h.only n, h.lt⟩
theorem NSt.run {w W W2 : World} {g B a a2 j : Nat} {s tx : ByteArray} {kd : Int} (hg : g < w.heap.size) (h : NSt w g B s a kd tx j W)
    (hb : W2.heap[g]? = some (.cells #[.string s, .int .i64 (a2 : Int)] 68 (0, 0))) (ho : W.grownBy W2 (some g)) : NSt w g B s a2 kd tx j W2 :=
  ⟨hb, blk_grown h.res ho (by simp; omega), blk_grown h.tok ho (by have := h.lt; simp; omega), only_trans h.only ho, h.lt⟩
theorem NSt.setg {w W : World} {g B a j : Nat} {s tx : ByteArray} {kd : Int} (hg : g < w.heap.size) (h : NSt w g B s a kd tx j W) :
    NSt w g B s (a + 1) kd tx j (W.setCell ⟨g, 1, none⟩ (.int .i64 ((a : Int) + 1))) :=
  ⟨adv h.lex, (Below.heap_setCell _ _ _ _ (by simp; omega)).trans h.res, (Below.heap_setCell _ _ _ _ (by have := h.lt; simp; omega)).trans h.tok, only_setCell h.only (.inl rfl) _, h.lt⟩
theorem NSt.sett {w W : World} {g B a j : Nat} {s tx : ByteArray} {kd : Int} (hg : g < w.heap.size) (h : NSt w g B s a kd tx j W) (kd2 : Int) (tx2 : ByteArray) :
    NSt w g B s a kd2 tx2 j ((W.setCell ⟨B, 0, none⟩ (.int .i64 kd2)).setCell ⟨B, 1, none⟩ (.string tx2)) := by
  have hl := h.lt
  refine ⟨?_, ?_, blk_put (blk_put h.tok 0 _ rfl) 1 _ rfl, only_setCell (only_setCell h.only (.inr (by show _ ≤ B; omega)) _) (.inr (by show _ ≤ B; omega)) _, hl⟩
  · rw [Below.heap_setCell _ _ _ _ (by show g ≠ B; omega), Below.heap_setCell _ _ _ _ (by show g ≠ B; omega)]; exact h.lex
  · rw [Below.heap_setCell _ _ _ _ (by show _ ≠ B; omega), Below.heap_setCell _ _ _ _ (by show _ ≠ B; omega)]; exact h.res
theorem next_done {w W : World} {g B a j k : Nat} {s tx : ByteArray} {kd : Int} {text : List UInt8} (hg : g < w.heap.size) (h : NSt w g B s a kd tx j W)
    (hj : blanksTo s k = j) (hp : ¬ blanksTo s k = s.size) (ht : tokAt s j = some (kd, text, a)) (hx : tx = ⟨text.toArray⟩) :
    (fun e w' => NextPost s k g e w' ∧ w.grownBy w' (some g)) (.returned (.tuple #[.agg #[.int .i64 kd, .string tx, .int .i64 (j : Int)], .bool true, .int .i64 0]))
      (((W.setCell ⟨w.heap.size, 0, none⟩ (.int .i64 kd)).setCell ⟨w.heap.size, 1, none⟩ (.string tx)).setCell ⟨w.heap.size, 2, none⟩ (.int .i64 (j : Int))) := by
  refine ⟨?_, only_three h.only (Nat.le_refl _) _ _ _⟩
  unfold NextPost
  rw [if_neg hp, hj, ht]
  exact ⟨by rw [hx], far_three h.lex (by omega) _ _ _⟩
theorem next_drew {s : ByteArray} {k g : Nat} {w W : World} {e : Ending} (h : (fun e w' => NextPost s k g e w' ∧ w.grownBy w' (some g)) e W) : (fun e w' => NextPost s k g e w' ∧ w.grownBy w' (some g)) e W.drew :=
  ⟨h.1, only_drew h.2⟩
theorem next_bad {w W : World} {g B a j k : Nat} {s tx : ByteArray} {kd : Int} (h : NSt w g B s a kd tx j W)
    (hj : blanksTo s k = j) (hp : ¬ blanksTo s k = s.size) (ht : tokAt s j = none) (x y z : Value) :
    (fun e w' => NextPost s k g e w' ∧ w.grownBy w' (some g)) (.returned (.tuple #[.agg #[.int .i64 0, .string ⟨#[]⟩, .int .i64 (j : Int)], .bool false, .int .i64 4]))
      (((W.setCell ⟨w.heap.size, 0, none⟩ x).setCell ⟨w.heap.size, 1, none⟩ y).setCell ⟨w.heap.size, 2, none⟩ z) := by
  refine ⟨?_, only_three h.only (Nat.le_refl _) _ _ _⟩
  unfold NextPost
  rw [if_neg hp, hj, ht]
set_option maxRecDepth 100000 in
set_option maxHeartbeats 4000000 in
theorem next_tok (g : Nat) (s : ByteArray) (k j : Nat) (w : World) (hb : w.heap[g]? = some (.cells #[.string s, .int .i64 (k : Int)] 68 (0, 0)))
    (hs : s.size ≤ 140737488351232) (hk : k ≤ s.size) (hj : blanksTo s k = j) (hlt : j < s.size) :
    Calls Try.prog 29 #[.pointer (some ⟨g, 0, none⟩)] w fun e w' => NextPost s k g e w' ∧ w.grownBy w' (some g) := by
  have hgl := blk_lt hb
  have HB0 := Aside0.mk (blk_alloc hb (.cells #[.int .i64 0, .string ⟨#[]⟩, .int .i64 0] 28))
  clear hb
  go_enter Try.func29, Try.ntmps29
  go_wp2_with (go_at_call 47; refine (blanks_calls g s k _ HB0.out hs hk).mono ?_)
  rintro e w1 ⟨rfl, hb1, ho1⟩
  rw [hj] at hb1
  have hn1 := blk_grown (blk_new w _) ho1 (by simp; omega)
  have hz1 : w.heap.size < w1.heap.size := blk_lt hn1
  have HB1 := Aside0.mk hb1
  have HN1 := Aside0.mk hn1
  have HO1 := Aside0.mk (only_trans (only_alloc (only_refl w (some g)) _) ho1)
  have HJ := Aside0.mk hj
  obtain ⟨c0, c1, f1⟩ := lex2 hb1
  clear hb1 ho1 hn1 hj HB0
  have hq : ((j : Int) == (s.size : Int)) = false := by simp; omega
  have hl2 : (j : Int) < (s.size : Int) := by omega
  go_wp2_with fail
  go_quiet (fail)
  have HB2 := Aside0.mk (blk_drewN HB1.out nq)
  have HN2 := Aside0.mk (blk_drewN HN1.out nq)
  have HO2 := Aside0.mk (only_drewN HO1.out nq)
  have hz2 : w.heap.size < (w1.drewN nq).heap.size := hz1
  clear c0 c1 f1 HB1 HN1 HO1 hz1
  generalize w1.drewN nq = w2 at *
  obtain ⟨c0, c1, f1⟩ := lex2 HB2.out
  obtain ⟨t0, t1, t2, u0, u1, u2⟩ := tok3 (blk_new w2 (.cells #[.int .i64 0, .string ⟨#[]⟩, .int .i64 0] 28))
  go_wp2_with fail
  refine gen_wp (NSt w g w2.heap.size s j 0 ⟨#[]⟩ j) ⟨blk_alloc HB2.out _, blk_alloc HN2.out _, blk_new w2 _, only_alloc HO2.out _, hz2⟩ ?_
  clear c0 c1 f1 t0 t1 t2 u0 u1 u2 HB2 HN2 HO2
  intro w3 HS
  generalize w2.heap.size = B at *
  obtain ⟨c0, c1, f1⟩ := lex2 HS.lex
  go_quiet (fail)
  have HS2 := Aside0.mk (HS.drewN nq)
  clear HS c0 c1 f1
  generalize w3.drewN nq = w4 at *
  obtain ⟨c0, c1, f1⟩ := lex2 HS2.out.lex
  obtain ⟨t0, t1, t2, u0, u1, u2⟩ := tok3 HS2.out.tok
  obtain ⟨d0, d1, d2, e0, e1, e2⟩ := tok3 HS2.out.res
  have hne : B ≠ w.heap.size := by omega
  have hne2 : w.heap.size ≠ B := by omega
  have hne3 : g ≠ B := by omega
  have hne4 : g ≠ w.heap.size := by omega
  have hjs : ¬ blanksTo s k = s.size := by rw [HJ.out]; omega
  have HP := Aside0.mk hjs
  clear hjs
  have hdc := Aside0.mk (drop_cons s j hlt)
  go_wp2_with fail
  refine (letter_q s[j] _).mono ?_
  rintro e w5 ⟨rfl, n5, rfl⟩
  have HS3 := Aside0.mk (HS2.out.drewN n5)
  clear c0 c1 f1 t0 t1 t2 u0 u1 u2 d0 d1 d2 e0 e1 e2 HS2
  generalize w4.drewN n5 = w5 at *
  obtain ⟨c0, c1, f1⟩ := lex2 HS3.out.lex
  cases hl : isLetter s[j] with
  | true =>
    have HT : Aside0 (tokAt s j = some (0, (s.data.toList.drop j).takeWhile isWord, runTo isWord s j)) := ⟨by unfold tokAt; rw [hdc.out]; simp only [hl, if_true]⟩
    have HE := Aside0.mk (extract_run isWord s j)
    go_wp2_with fail
    refine (run_word g s j _ HS3.out.lex hs (by omega)).mono ?_
    rintro e w6 ⟨rfl, hb6, ho6⟩
    have HS6 := Aside0.mk (NSt.run hgl HS3.out hb6 ho6)
    clear hb6 ho6 c0 c1 f1
    obtain ⟨t0, t1, t2, u0, u1, u2⟩ := tok3 HS6.out.tok
    obtain ⟨d0, d1, d2, e0, e1, e2⟩ := tok3 HS6.out.res
    go_wp2_with fail
    exact bodyPost_ret (v := .tuple #[.agg #[.int .i64 0, .string (s.extract j (runTo isWord s j)), .int .i64 (j : Int)], .bool true, .int .i64 0]) (by simp [results, Try.results29, go_sem, d0, d1, d2, e0, e1, e2]) rfl
      (next_done hgl (NSt.sett hgl HS6.out 0 _) HJ.out HP.out HT.out HE.out)
  | false =>
    go_wp2_with fail
    by_cases hdg : isDigit s[j] = true ∨ s[j] = 45
    · have HD : Aside0 (tokAt s j = if s[j] == 45 && ((s.data.toList.drop (j + 1)).takeWhile isDigit).isEmpty then none else some (1, s[j] :: (s.data.toList.drop (j + 1)).takeWhile isDigit, runTo isDigit s (j + 1))) := ⟨by
        unfold tokAt; rw [hdc.out]; simp only [hl]
        rcases hdg with h | h
        · simp [h]
        · simp [h]⟩
      have HS7 := fun n => Aside0.mk (NSt.setg hgl (HS3.out.drewN n))
      have hdd : (isDigit s[j] || ((s[j].toNat : Int) == 45)) = true := by
        rcases hdg with h | h
        · simp [h]
        · simp [h]
      refine (digit_q s[j] _).mono ?_
      rintro e w6 ⟨rfl, n6, rfl⟩
      have HS6 := HS7 n6
      clear HS7
      have hcase : isDigit s[j] = true ∨ (isDigit s[j] = false ∧ ((s[j].toNat : Int) == 45) = true) := by
        cases hd : isDigit s[j] with
        | true => exact .inl rfl
        | false => rw [hd] at hdd; exact .inr ⟨rfl, by simpa using hdd⟩
      have HNT := Aside0.mk (num_text s j hlt)
      have HNB := Aside0.mk (num_bare s[j] ((s.data.toList.drop (j + 1)).takeWhile isDigit))
      rcases hcase with hdig | ⟨hdig, e45⟩
      all_goals
        rw [hdig]
        clear hdd hdg
        go_wp2_with fail
        refine gen_wp (NSt w g B s (j + 1) 0 ⟨#[]⟩ j) HS6.out ?_
        clear c0 c1 f1 HS6 HS3 hdig
        try clear e45
        intro w8 HS
        have c0 : w8.cell? ⟨g, 0, none⟩ = some (.string s) := (lex2 HS.lex).1
        have c1 : w8.cell? ⟨g, 1, none⟩ = some (.int .i64 ((j : Int) + 1)) := by have := (lex2 HS.lex).2.1; simpa using this
        have HS8 := Aside0.mk HS
        clear HS
        have hx0 : (0 : Int) ≤ (j : Int) := by omega
        have hx1 : (j : Int) + 1 ≤ (s.size : Int) := by omega
        have hx2 : ((j : Int) + 1).toNat = j + 1 := by omega
        have hx3 : IntKind.i64.wrap ((j : Int) + 1 - 1) = (j : Int) := by rw [IntKind.wrap_i64]; omega
        have hx4 : (j : Int) ≤ (j : Int) + 1 := by omega
        go_quiet (fail)
        clear hx2 hx3 c0 c1
        go_wp2_with fail
        refine (run_digits g s (j + 1) _ (blk_drewN HS8.out.lex _) hs (by omega)).mono ?_
        rintro e w9 ⟨rfl, hb9, ho9⟩
        have HS9 := Aside0.mk (NSt.run hgl (HS8.out.drewN _) hb9 ho9)
        clear hb9 ho9
        obtain ⟨t0, t1, t2, u0, u1, u2⟩ := tok3 HS9.out.tok
        obtain ⟨d0, d1, d2, e0, e1, e2⟩ := tok3 HS9.out.res
        have hxa : (s.extract j (j + 1)).size ≤ 140737488351232 := by simp; omega
        have hxb : (s.extract (j + 1) (runTo isDigit s (j + 1))).size ≤ 140737488351232 := by simp; omega
        cases hbare : (s[j] == 45 && ((s.data.toList.drop (j + 1)).takeWhile isDigit).isEmpty) with
        | true =>
          have hxt : ((s.extract j (max (j + 1) (runTo isDigit s (j + 1)))).toList == [45]) = true := by rw [HNT.out, HNB.out, hbare]
          have HT2 : Aside0 (tokAt s j = none) := ⟨by rw [HD.out, if_pos hbare]⟩
          clear hbare
          go_wp2_with fail
          exact bodyPost_ret (v := .tuple #[.agg #[.int .i64 0, .string ⟨#[]⟩, .int .i64 (j : Int)], .bool false, .int .i64 4]) (by simp [results, Try.results29, go_sem, d0, d1, d2, e0, e1, e2]) rfl
            (next_bad (NSt.sett hgl HS9.out 1 _) HJ.out HP.out HT2.out _ _ _)
        | false =>
          have hxt : ((s.extract j (max (j + 1) (runTo isDigit s (j + 1)))).toList == [45]) = false := by rw [HNT.out, HNB.out, hbare]
          have HT2 : Aside0 (tokAt s j = some (1, s[j] :: (s.data.toList.drop (j + 1)).takeWhile isDigit, runTo isDigit s (j + 1))) := ⟨by rw [HD.out, if_neg (by simp [hbare])]⟩
          clear hbare
          go_wp2_with fail
          exact bodyPost_ret (v := .tuple #[.agg #[.int .i64 1, .string (s.extract j (max (j + 1) (runTo isDigit s (j + 1)))), .int .i64 (j : Int)], .bool true, .int .i64 0]) (by simp [results, Try.results29, go_sem, d0, d1, d2, e0, e1, e2]) rfl
            (next_done hgl (NSt.sett hgl HS9.out 1 _) HJ.out HP.out HT2.out HNT.out)
    · have hd1 : isDigit s[j] = false := by simpa using fun h => hdg (.inl h)
      have hd2 : s[j] ≠ 45 := fun h => hdg (.inr h)
      have e45 : ((s[j].toNat : Int) == 45) = false := u8_ne s[j] 45 hd2
      refine (digit_q s[j] _).mono ?_
      rintro e w6 ⟨rfl, n6, rfl⟩
      rw [hd1]
      have HS6 := Aside0.mk (HS3.out.drewN n6)
      clear c0 c1 f1 HS3
      generalize w5.drewN n6 = w6 at *
      obtain ⟨c0, c1, f1⟩ := lex2 HS6.out.lex
      obtain ⟨t0, t1, t2, u0, u1, u2⟩ := tok3 HS6.out.tok
      obtain ⟨d0, d1, d2, e0, e1, e2⟩ := tok3 HS6.out.res
      by_cases h34 : s[j] = 34
      · have e34 : ((s[j].toNat : Int) == 34) = true := u8_eq' s[j] 34 h34
        have HT : Aside0 (tokAt s j = (unqAt s (j + 1)).map fun p => (2, p.1, p.2)) := ⟨by unfold tokAt; rw [hdc.out]; simp only [h34]; rfl⟩
        go_wp2_with fail
        refine (quote_calls g s j _ HS6.out.lex hs hlt).mono ?_
        rintro e w7 ⟨hq7, ho7⟩
        unfold QuotePost at hq7
        cases hu : unqAt s (j + 1) with
        | none =>
          rw [hu] at hq7
          obtain ⟨rfl, j7, hb7⟩ := hq7
          have HT2 : Aside0 (tokAt s j = none) := ⟨by rw [HT.out, hu]; rfl⟩
          have HS7 := Aside0.mk (NSt.run hgl HS6.out hb7 ho7)
          clear hb7 ho7 c0 c1 f1 t0 t1 t2 u0 u1 u2 d0 d1 d2 e0 e1 e2 hu HT
          obtain ⟨t0, t1, t2, u0, u1, u2⟩ := tok3 HS7.out.tok
          obtain ⟨d0, d1, d2, e0, e1, e2⟩ := tok3 HS7.out.res
          go_wp2_with fail
          exact bodyPost_ret (v := .tuple #[.agg #[.int .i64 0, .string ⟨#[]⟩, .int .i64 (j : Int)], .bool false, .int .i64 4]) (by simp [results, Try.results29, go_sem, d0, d1, d2, e0, e1, e2]) rfl
            (next_bad HS7.out HJ.out HP.out HT2.out _ _ _)
        | some p =>
          obtain ⟨l7, j7⟩ := p
          rw [hu] at hq7
          obtain ⟨rfl, hb7⟩ := hq7
          have HT2 : Aside0 (tokAt s j = some (2, l7, j7)) := ⟨by rw [HT.out, hu]; rfl⟩
          have HS7 := Aside0.mk (NSt.run hgl HS6.out hb7 ho7)
          clear hb7 ho7 c0 c1 f1 t0 t1 t2 u0 u1 u2 d0 d1 d2 e0 e1 e2 hu HT
          obtain ⟨t0, t1, t2, u0, u1, u2⟩ := tok3 HS7.out.tok
          obtain ⟨d0, d1, d2, e0, e1, e2⟩ := tok3 HS7.out.res
          go_wp2_with fail
          exact bodyPost_ret (v := .tuple #[.agg #[.int .i64 2, .string ⟨l7.toArray⟩, .int .i64 (j : Int)], .bool true, .int .i64 0]) (by simp [results, Try.results29, go_sem, d0, d1, d2, e0, e1, e2]) rfl
            (next_done hgl (NSt.sett hgl HS7.out 2 _) HJ.out HP.out HT2.out rfl)
      · have e34 : ((s[j].toNat : Int) == 34) = false := u8_ne s[j] 34 h34
        go_wp2_with fail
        refine (mark_q s[j] _).mono ?_
        rintro e w7 ⟨rfl, rfl⟩
        have hmd := markIdx_dec s[j]
        have HT : Aside0 (tokAt s j = if isMark s[j] then some (3, [s[j]], j + 1) else none) := ⟨by
          unfold tokAt; rw [hdc.out]; simp only [hl, hd1, beq_eq_false_iff_ne.2 hd2, beq_eq_false_iff_ne.2 h34]; rfl⟩
        cases hm : isMark s[j] with
        | false =>
          rw [hm] at hmd
          have HT2 : Aside0 (tokAt s j = none) := ⟨by rw [HT.out, hm]; rfl⟩
          clear hm HT
          go_wp2_with fail
          exact bodyPost_ret (v := .tuple #[.agg #[.int .i64 0, .string ⟨#[]⟩, .int .i64 (j : Int)], .bool false, .int .i64 4]) (by simp [results, Try.results29, go_sem, d0, d1, d2, e0, e1, e2]) rfl
            (next_bad HS6.out HJ.out HP.out HT2.out _ _ _)
        | true =>
          rw [hm] at hmd
          have HT2 : Aside0 (tokAt s j = some (3, [s[j]], j + 1)) := ⟨by rw [HT.out, hm]; rfl⟩
          clear hm HT
          have HS7 := Aside0.mk (NSt.setg hgl HS6.out)
          go_wp2_with fail
          refine gen_wp (NSt w g B s (j + 1) 0 ⟨#[]⟩ j) HS7.out ?_
          clear c0 c1 f1 t0 t1 t2 u0 u1 u2 d0 d1 d2 e0 e1 e2 HS6 HS7 hmd
          intro w8 HS
          have c0 : w8.cell? ⟨g, 0, none⟩ = some (.string s) := (lex2 HS.lex).1
          have c1 : w8.cell? ⟨g, 1, none⟩ = some (.int .i64 ((j : Int) + 1)) := by have := (lex2 HS.lex).2.1; simpa using this
          obtain ⟨t0, t1, t2, u0, u1, u2⟩ := tok3 HS.tok
          obtain ⟨d0, d1, d2, e0, e1, e2⟩ := tok3 HS.res
          have HS8 := Aside0.mk HS
          clear HS
          have hx0 : (0 : Int) ≤ (j : Int) := by omega
          have hx1 : (j : Int) + 1 ≤ (s.size : Int) := by omega
          have hx2 : ((j : Int) + 1).toNat = j + 1 := by omega
          have hx3 : IntKind.i64.wrap ((j : Int) + 1 - 1) = (j : Int) := by rw [IntKind.wrap_i64]; omega
          have hx4 : (j : Int) ≤ (j : Int) + 1 := by omega
          go_region
          clear hx2 hx3
          go_wp2_with fail
          exact bodyPost_ret (v := .tuple #[.agg #[.int .i64 3, .string (s.extract j (j + 1)), .int .i64 (j : Int)], .bool true, .int .i64 0]) (by simp [results, Try.results29, go_sem, d0, d1, d2, e0, e1, e2]) rfl
            (next_drew (next_done hgl (NSt.sett hgl HS8.out 3 _) HJ.out HP.out HT2.out (extract_one s j hlt)))
theorem next_isEnd (g : Nat) (s : ByteArray) (k : Nat) (w : World) (hb : w.heap[g]? = some (.cells #[.string s, .int .i64 (k : Int)] 68 (0, 0)))
    (hs : s.size ≤ 140737488351232) (hk : k ≤ s.size) (hj : blanksTo s k = s.size) :
    Calls Try.prog 29 #[.pointer (some ⟨g, 0, none⟩)] w fun e w' => e = .returned (.tuple #[.agg #[.int .i64 0, .string ⟨#[]⟩, .int .i64 0], .bool false, .int .i64 0]) ∧ w.grownBy w' (some g) := by
  refine (next_end g s k w hb hs hk hj).mono ?_
  rintro e w' ⟨h, ho⟩
  unfold NextPost at h; rw [if_pos hj] at h
  exact ⟨h.1, ho⟩
theorem next_isBad (g : Nat) (s : ByteArray) (k : Nat) (w : World) (hb : w.heap[g]? = some (.cells #[.string s, .int .i64 (k : Int)] 68 (0, 0)))
    (hs : s.size ≤ 140737488351232) (hk : k ≤ s.size) (hj : ¬ blanksTo s k = s.size) (ht : tokAt s (blanksTo s k) = none) :
    Calls Try.prog 29 #[.pointer (some ⟨g, 0, none⟩)] w fun e w' => e = .returned (.tuple #[.agg #[.int .i64 0, .string ⟨#[]⟩, .int .i64 (blanksTo s k : Int)], .bool false, .int .i64 4]) ∧ w.grownBy w' (some g) := by
  refine (next_tok g s k _ w hb hs hk rfl (by have := (blanksTo_le s k hk).2; omega)).mono ?_
  rintro e w' ⟨h, ho⟩
  unfold NextPost at h; rw [if_neg hj, ht] at h
  exact ⟨h, ho⟩
theorem next_isTok (g : Nat) (s : ByteArray) (k : Nat) (w : World) (hb : w.heap[g]? = some (.cells #[.string s, .int .i64 (k : Int)] 68 (0, 0)))
    (hs : s.size ≤ 140737488351232) (hk : k ≤ s.size) (hj : ¬ blanksTo s k = s.size) {kd : Int} {t : List UInt8} {j : Nat} (ht : tokAt s (blanksTo s k) = some (kd, t, j)) :
    Calls Try.prog 29 #[.pointer (some ⟨g, 0, none⟩)] w fun e w' => e = .returned (.tuple #[.agg #[.int .i64 kd, .string ⟨t.toArray⟩, .int .i64 (blanksTo s k : Int)], .bool true, .int .i64 0]) ∧
      w'.heap[g]? = some (.cells #[.string s, .int .i64 (j : Int)] 68 (0, 0)) ∧ w.grownBy w' (some g) := by
  refine (next_tok g s k _ w hb hs hk rfl (by have := (blanksTo_le s k hk).2; omega)).mono ?_
  rintro e w' ⟨h, ho⟩
  unfold NextPost at h; rw [if_neg hj, ht] at h
  exact ⟨h.1, h.2, ho⟩

end Go.Proofs.Ytokkjnfdfbpphaa.A
namespace Go.Proofs.Ytokkjnfdfbpphaa.A
open Go.RowKit Go.Proofs.YtokkjnfdfbpphaaW.PrintWords Go.Proofs.YtokkjnfdfbpphaaW.PrintLast Go.Proofs.YtokkjnfdfbpphaaW.PrintMore
attribute [local go_sem] max2_int min2_int max_two min_two max_three min_three max_four min_four   -- for this text's walks alone
set_option linter.unusedVariables false
set_option linter.unusedSimpArgs false

/-! ### say_Tokens: function 10 -/
def say_Tokens.f (a0 : ByteArray) : Option ((List (S28)) × Int × Int) := if a0.size ≤ 65536 then (match lexed a0 with | .ok l => some (l, 0, 0) | .error p => some ([], (p : Int), 4)) else some ([], 0, 3)
set_option maxRecDepth 100000 in
set_option maxHeartbeats 2000000 in
theorem Tokens_long (s : ByteArray) (w : World) (hs : 65536 < s.size) :
    Calls Try.prog 10 #[.string s] w fun e w' => e = .returned (.tuple #[.slice none 0 0, .int .i64 0, .int .i64 3]) ∧ Below w.heap.size w w' := by
  have hd : decide ((65536 : Int) < (s.size : Int)) = true := by simp; omega
  go_enter Try.func10, Try.ntmps10
  go_wp2
  exact bodyPost_ret (results_tmp3 rfl _ _ _) rfl ⟨rfl, Below.refl _ _⟩
def TokPost (w : World) (s : ByteArray) (e : Ending) (w' : World) : Prop :=
  (match lexed s with
    | .ok l => ∃ v : Value, e = .returned (.tuple #[v, .int .i64 0, .int .i64 0]) ∧ Kd.R k28 28 w' w.heap.size (fun _ => True) v l
    | .error p => e = .returned (.tuple #[.slice none 0 0, .int .i64 (p : Int), .int .i64 4])) ∧ Below w.heap.size w w'
set_option maxRecDepth 100000 in
set_option maxHeartbeats 2000000 in
theorem Tokens_short (s : ByteArray) (w : World) (hs : s.size ≤ 65536) :
    Calls Try.prog 10 #[.string s] w fun e w' => TokPost w s e w' := by
  have hd : decide ((65536 : Int) < (s.size : Int)) = false := by simp; omega
  have HB0 := Aside0.mk (blk_new w (.cells #[.string s, .int .i64 0] 68))
  go_enter Try.func10, Try.ntmps10
  go_wp2
  go_loopw [6] (fun v wr => ∃ (i n : Nat) (acc : List S28), i ≤ s.size ∧ s.size < i + n ∧ acc.length ≤ i ∧ Aside0 (lexed s = (lexAll n s i).map (acc ++ ·)) ∧ Aside0 (wr.heap[w.heap.size]? = some (.cells #[.string s, .int .i64 (i : Int)] 68 (0, 0))) ∧
      Aside0 (Kd.R k28 28 wr w.heap.size (fun k_ => k_ ≠ w.heap.size) v acc) ∧ Aside0 (Below w.heap.size w wr))
    (fun _ wr => s.size - atOf wr w.heap.size)
  case atStart => exact ⟨0, s.size + 1, [], by omega, by omega, by simp, ⟨by show lexAll _ _ _ = _; cases lexAll (s.size + 1) s 0 <;> simp [Except.map]⟩, by simpa using HB0, ⟨Kd.R_nil _ _ _ _ _⟩, ⟨(Below.refl _ _).alloc (Nat.le_refl _) _⟩⟩
  case round =>
    clear HB0
    obtain ⟨i, n, acc, hi, hn, hac, hr, hb, hR, hw⟩ := hrel
    obtain ⟨n, rfl⟩ : ∃ m, n = m + 1 := ⟨n - 1, by omega⟩
    have hs2 : s.size ≤ 140737488351232 := by omega
    by_cases hj : blanksTo s i = s.size
    · have HL : Aside0 (lexed s = .ok acc) := ⟨by rw [hr.out]; simp only [lexAll, hj, if_true, Except.map, List.append_nil]⟩
      go_wp2_with (go_at_call 29; refine (next_isEnd w.heap.size s i _ hb.out hs2 hi hj).mono ?_; rintro e w2 ⟨rfl, ho⟩; have HO := Aside0.mk (Kd.R_grown hR.out ho (fun k_ hk e => hk (Option.some.inj e))); have HW := Aside0.mk (hw.out.grown ho hw.out.size (fun k hk => by injection hk with hk; omega)); clear ho)
      refine bodyPost_ret (results_tmp3 rfl _ _ _) rfl ?_
      unfold TokPost
      rw [HL.out]
      refine ⟨⟨_, rfl, Kd.R_mono (ok := fun k_ => k_ ≠ w.heap.size) ?_ (fun _ _ => trivial)⟩, ?_⟩
      · repeat (first | exact HO.out | apply Kd.R_alloc | apply Kd.R_drewN | apply Kd.R_drew)
      · repeat (first | exact HW.out | apply below_alloc | apply below_drew)
    · cases ht : tokAt s (blanksTo s i) with
      | none =>
        have HL : Aside0 (lexed s = .error (blanksTo s i)) := ⟨by rw [hr.out]; simp only [lexAll, hj, if_false, ht, Except.map]⟩
        go_wp2_with (go_at_call 29; refine (next_isBad w.heap.size s i _ hb.out hs2 hi hj ht).mono ?_; rintro e w2 ⟨rfl, ho⟩; have HW := Aside0.mk (hw.out.grown ho hw.out.size (fun k hk => by injection hk with hk; omega)); clear ho)
        obtain ⟨t0, t1, t2, u0, u1, u2⟩ := tok3 (blk_new w2 (.cells #[.int .i64 0, .string ⟨#[]⟩, .int .i64 (blanksTo s i : Int)] 28))
        go_quiet (fail)
        go_wp2_with fail
        refine bodyPost_ret (results_tmp3 rfl _ _ _) rfl ?_
        unfold TokPost
        rw [HL.out]
        refine ⟨rfl, ?_⟩
        repeat (first | exact HW.out | apply below_alloc | apply pw_below_drewN)
      | some p =>
        obtain ⟨kd, tx, e⟩ := p
        have hle := blanksTo_le s i hi
        have hlt := tokAt_le s (blanksTo s i) kd tx e (by omega) ht
        have HL : Aside0 (lexed s = (lexAll n s e).map ((acc ++ [(⟨kd, ⟨tx.toArray⟩, (blanksTo s i : Int)⟩ : S28)]) ++ ·)) := ⟨by
          rw [hr.out]; simp only [lexAll, hj, if_false, ht, except_map_map]; congr 1; funext a; simp⟩
        have hal : (acc.length + 1) * 32 ≤ 140737488355328 := by omega
        go_wp2_with (first | (go_at_call 29; refine (next_isTok w.heap.size s i _ hb.out hs2 hi hj ht).mono ?_; rintro e w2 ⟨rfl, hb2, ho⟩; have HB2 := Aside0.mk hb2; have HO := Aside0.mk (Kd.R_grown hR.out ho (fun k_ hk e => hk (Option.some.inj e))); have HW := Aside0.mk (hw.out.grown ho hw.out.size (fun k hk => by injection hk with hk; omega)); clear ho hb2) | (at_builtin; refine Kd.R_append k28 w.heap.size rfl (.tmp 30) (.tmp 32) 23 28 (.agg #[(.int .i64 0), (.string ⟨#[]⟩), (.int .i64 0)]) 32 rfl Try.underlying23 info28 rfl (by decide) (by omega) _ acc (⟨kd, ⟨tx.toArray⟩, (blanksTo s i : Int)⟩ : S28) [.int .i64 kd, .string ⟨tx.toArray⟩, .int .i64 (blanksTo s i : Int)] (fun k_ => k_ ≠ w.heap.size) (fun _ => False) rfl (by first | (go_simp; done) | (go_simp; rfl)) ?aP (fun _ hk => hk.elim) ?aF ?aO (Below.refl _ _) ?aS ?aL ?_))
        case aP => exact k28_mkM _ _ _ (⟨kd, ⟨tx.toArray⟩, (blanksTo s i : Int)⟩ : S28)
        case aF => intro k_ hk; have := blk_lt HB2.out; simp at hk; omega
        case aO => exact Kd.R_alloc HO.out _
        case aS => have := HW.out.size; simp; omega
        case aL => exact hal
        intro v1 w3 ho3 hb3 hg3 hat3
        have HB3 : Aside0 (w3.heap[w.heap.size]? = some (.cells #[.string s, .int .i64 (e : Int)] 68 (0, 0))) := ⟨blk_grown (blk_alloc HB2.out _) hg3 (fun e => HO.out.1 _ e.symm rfl)⟩
        have HR3 := Aside0.mk ho3
        have HW3 := Aside0.mk ((HW.out.alloc HW.out.size _).trans hb3)
        clear ho3 hb3 hg3 hat3
        go_wp2_with fail
        exact ⟨⟨e, n, acc ++ [(⟨kd, ⟨tx.toArray⟩, (blanksTo s i : Int)⟩ : S28)], hlt.2, by omega, by simp; omega, HL, HB3, HR3, HW3⟩, by rw [atOf_of HB3.out, atOf_of hb.out]; omega⟩
theorem say_Tokens.calls (a0 : ByteArray) (r1 : List (S28)) (r2 : Int) (r3 : Int) (w : World) (h : say_Tokens.f a0 = some (r1, r2, r3)) :
    Calls Try.prog 10 #[.string a0] w fun e w' => ∃ v0_ : Value, e = .returned (.tuple #[v0_, .int .i64 r2, .int .i64 r3]) ∧ Kd.R k28 28 w' w.heap.size (fun _ => True) v0_ r1 ∧ Below w.heap.size w w' := by
  unfold say_Tokens.f at h
  split at h
  · rename_i hs
    refine (Tokens_short a0 w hs).mono ?_
    rintro e w' ⟨hp, hw⟩
    cases hl : lexed a0 with
    | ok l =>
      rw [hl] at hp h
      simp only [Option.some.injEq, Prod.mk.injEq] at h
      obtain ⟨rfl, rfl, rfl⟩ := h
      obtain ⟨v, rfl, hR⟩ := hp
      exact ⟨v, rfl, hR, hw⟩
    | error p =>
      rw [hl] at hp h
      simp only [Option.some.injEq, Prod.mk.injEq] at h
      obtain ⟨rfl, rfl, rfl⟩ := h
      subst hp
      exact ⟨_, rfl, Kd.R_nil _ _ _ _ _, hw⟩
  · rename_i hs
    simp only [Option.some.injEq, Prod.mk.injEq] at h
    obtain ⟨rfl, rfl, rfl⟩ := h
    refine (Tokens_long a0 w (by omega)).mono ?_
    rintro e w' ⟨rfl, hw⟩
    exact ⟨_, rfl, Kd.R_nil _ _ _ _ _, hw⟩

end Go.Proofs.Ytokkjnfdfbpphaa.A
namespace Go.Proofs.Ytokkjnfdfbpphaa.A
open Go.RowKit Go.Proofs.YtokkjnfdfbpphaaW.PrintWords Go.Proofs.YtokkjnfdfbpphaaW.PrintLast Go.Proofs.YtokkjnfdfbpphaaW.PrintMore
attribute [local go_sem] max2_int min2_int max_two min_two max_three min_three max_four min_four   -- for this text's walks alone
set_option linter.unusedVariables false
set_option linter.unusedSimpArgs false

/-! tokens without places; how a text falls into tokens, whatever stands behind it -/
def tkOf (s : S28) : Int × List UInt8 := (s.f0, s.f1.data.toList)
theorem unq_le' (l t : List UInt8) (k : Nat) (h : unq l = some (t, k)) : 0 < k ∧ k ≤ l.length := unq_le _ l t k (Nat.le_refl _) h
theorem tokL_le (l : List UInt8) (k : Int) (t : List UInt8) (m : Nat) (h : tokL l = some (k, t, m)) : 0 < m ∧ m ≤ l.length := by
  unfold tokL at h
  split at h
  · simp at h
  · rename_i c r
    split at h
    · rename_i hl
      simp only [Option.some.injEq, Prod.mk.injEq] at h
      obtain ⟨_, _, rfl⟩ := h
      refine ⟨?_, takeWhile_le _ _⟩
      rw [List.takeWhile_cons_of_pos (by simp [isWord, hl])]; simp
    · split at h
      · split at h
        · simp at h
        · simp only [Option.some.injEq, Prod.mk.injEq] at h
          obtain ⟨_, _, rfl⟩ := h
          have := takeWhile_le isDigit r
          simp; omega
      · split at h
        · cases hu : unq r with
          | none => rw [hu] at h; simp at h
          | some p =>
            rw [hu] at h
            simp only [Option.map_some, Option.some.injEq, Prod.mk.injEq] at h
            have := unq_le' r p.1 p.2 hu
            simp; omega
        · split at h
          · simp only [Option.some.injEq, Prod.mk.injEq] at h
            simp; omega
          · simp at h
theorem lexL_fuel : ∀ (n m : Nat) (l : List UInt8) (p : Nat), l.length < n → l.length < m → lexL n l p = lexL m l p
  | 0, _, _, _, h, _ => absurd h (Nat.not_lt_zero _)
  | _, 0, _, _, _, h => absurd h (Nat.not_lt_zero _)
  | n + 1, m + 1, l, p, hn, hm => by
    unfold lexL
    split
    · rfl
    · cases ht : tokL (l.drop (blankLen false l)) with
      | none => rfl
      | some q =>
        obtain ⟨k, t, j⟩ := q
        have hj := tokL_le _ k t j ht
        rw [List.length_drop] at hj
        dsimp only
        rw [lexL_fuel n m _ _ (by rw [List.length_drop]; omega) (by rw [List.length_drop]; omega)]
def lx (l : List UInt8) (p : Nat) : Except Nat (List S28) := lexL (l.length + 1) l p
theorem lexL_lx (n : Nat) (l : List UInt8) (p : Nat) (h : l.length < n) : lexL n l p = lx l p := lexL_fuel _ _ _ _ h (Nat.lt_succ_self _)
theorem lx_eq (l : List UInt8) (p : Nat) : lx l p =
    if l.drop (blankLen false l) = [] then .ok []
    else match tokL (l.drop (blankLen false l)) with
      | none => .error (p + blankLen false l)
      | some (k, t, m) => (lx (l.drop (blankLen false l + m)) (p + blankLen false l + m)).map fun r => (⟨k, ⟨t.toArray⟩, ((p + blankLen false l : Nat) : Int)⟩ : S28) :: r := by
  unfold lx
  rw [lexL]
  split
  · rfl
  · cases ht : tokL (l.drop (blankLen false l)) with
    | none => rfl
    | some q =>
      obtain ⟨k, t, j⟩ := q
      have hj := tokL_le _ k t j ht
      rw [List.length_drop] at hj
      dsimp only
      rw [lexL_fuel l.length _ _ _ (by rw [List.length_drop]; omega) (Nat.lt_succ_self _)]
def sepOK : List UInt8 → Prop
  | [] => True
  | c :: _ => isWord c = false
/-- A text that falls into these tokens, whatever stands behind it (false: if that is no word's byte). -/
def Lexes (f : Bool) (l : List UInt8) (ts : List (Int × List UInt8)) : Prop :=
  ∀ (r : List UInt8) (p : Nat), (f = true ∨ sepOK r) → ∃ qs : List S28, qs.map tkOf = ts ∧ lx (l ++ r) p = (lx r (p + l.length)).map (qs ++ ·)
theorem except_map_id {ε α : Type} (x : Except ε (List α)) : x.map (([] : List α) ++ ·) = x := by cases x <;> rfl
theorem Lexes.nil : Lexes true [] [] := fun r p _ => ⟨[], rfl, by rw [except_map_id]; rfl⟩
theorem Lexes.weak {f : Bool} {l : List UInt8} {ts : List (Int × List UInt8)} (h : Lexes true l ts) : Lexes f l ts := fun r p _ => h r p (.inl rfl)
theorem Lexes.append {f g : Bool} {a b : List UInt8} {ta tb : List (Int × List UInt8)} (ha : Lexes f a ta) (hb : Lexes g b tb) (hs : f = true ∨ (b ≠ [] ∧ sepOK b)) : Lexes g (a ++ b) (ta ++ tb) := by
  intro r p hr
  obtain ⟨qb, hqb, eb⟩ := hb r (p + a.length) hr
  obtain ⟨qa, hqa, ea⟩ := ha (b ++ r) p (by
    rcases hs with h | ⟨hn, h⟩
    · exact .inl h
    · right
      cases b with
      | nil => exact absurd rfl hn
      | cons c t => exact h)
  refine ⟨qa ++ qb, by simp [hqa, hqb], ?_⟩
  rw [List.append_assoc, ea, eb, except_map_map, List.length_append, Nat.add_assoc]
  congr 1
  funext x
  simp
/-- One token at a text's begin. -/
theorem lx_token (w r : List UInt8) (p : Nat) (k : Int) (t : List UInt8) (hw : w ≠ []) (hb : blankLen false (w ++ r) = 0) (ht : tokL (w ++ r) = some (k, t, w.length)) :
    lx (w ++ r) p = (lx r (p + w.length)).map (([⟨k, ⟨t.toArray⟩, (p : Int)⟩] : List S28) ++ ·) := by
  rw [lx_eq, hb, List.drop_zero, if_neg (by simp [hw]), ht]
  dsimp only
  rw [Nat.zero_add, List.drop_left]
  rfl
theorem Lexes.one {f : Bool} (w : List UInt8) (k : Int) (t : List UInt8) (hw : w ≠ []) (hb : ∀ r, blankLen false (w ++ r) = 0) (ht : ∀ r, (f = true ∨ sepOK r) → tokL (w ++ r) = some (k, t, w.length)) : Lexes f w [(k, t)] :=
  fun r p hr => ⟨[⟨k, ⟨t.toArray⟩, (p : Int)⟩], by simp [tkOf], lx_token w r p k t hw (hb r) (ht r hr)⟩
theorem lx_blank (c : UInt8) (hc : (c == 32 || c == 10 || c == 9) = true) (r : List UInt8) (p : Nat) : lx (c :: r) p = lx r (p + 1) := by
  have hb : blankLen false (c :: r) = blankLen false r + 1 := by rw [blankLen, if_pos hc]
  rw [lx_eq, lx_eq r, hb, List.drop_succ_cons]
  rw [show p + (blankLen false r + 1) = p + 1 + blankLen false r by omega]
  split
  · rfl
  · cases tokL (List.drop (blankLen false r) r) with
    | none => rfl
    | some q =>
      obtain ⟨k, t, j⟩ := q
      dsimp only
      rw [show blankLen false r + 1 + j = (blankLen false r + j) + 1 by omega, List.drop_succ_cons]
theorem Lexes.blank (c : UInt8) (hc : (c == 32 || c == 10 || c == 9) = true) : Lexes true [c] [] := fun r p _ => ⟨[], rfl, by
  rw [except_map_id]; exact lx_blank c hc r p⟩
theorem Lexes.mark (c : UInt8) (hc : isMark c = true) : Lexes true [c] [(3, [c])] := by
  have key : ∀ c : UInt8, isMark c = true → (c == 32 || c == 10 || c == 9) = false ∧ (c == 35) = false ∧ isLetter c = false ∧ (isDigit c || c == 45) = false ∧ (c == 34) = false := fun c => u8_all (p := fun c => isMark c = true → (c == 32 || c == 10 || c == 9) = false ∧ (c == 35) = false ∧ isLetter c = false ∧ (isDigit c || c == 45) = false ∧ (c == 34) = false) (by decide +kernel) c
  obtain ⟨h1, h2, h3, h4, h5⟩ := key c hc
  refine Lexes.one _ _ _ (by simp) (fun r => ?_) (fun r _ => ?_)
  · rw [List.singleton_append, blankLen, if_neg (by simp [h1]), if_neg (by simp [h2])]
  · rw [List.singleton_append, tokL, if_neg (by simp [h3]), if_neg (by simp [h4]), if_neg (by simp [h5]), if_pos hc]; rfl
theorem Lexes.quote (t : List UInt8) : Lexes true (quoted t) [(2, t)] := by
  refine Lexes.one _ _ _ (by simp [quoted]) (fun r => ?_) (fun r _ => tok_quote t r)
  unfold quoted; rw [List.cons_append, blankLen, if_neg (by decide), if_neg (by decide)]
theorem takeWhile_sep (p : UInt8 → Bool) (w r : List UInt8) (hw : ∀ c ∈ w, p c = true) (hr : ∀ c t, r = c :: t → p c = false) : (w ++ r).takeWhile p = w := by
  rw [List.takeWhile_append_of_pos hw]
  cases r with
  | nil => simp
  | cons c t => rw [List.takeWhile_cons_of_neg (by simp [hr c t rfl])]; simp
theorem sep_word {r : List UInt8} (h : sepOK r) : ∀ c t, r = c :: t → isWord c = false := by rintro c t rfl; exact h
theorem sep_digit {r : List UInt8} (h : sepOK r) : ∀ c t, r = c :: t → isDigit c = false := by
  rintro c t rfl
  have : isWord c = false := h
  simp [isWord] at this
  exact this.2
theorem Lexes.word (c : UInt8) (w : List UInt8) (hc : isLetter c = true) (hw : ∀ d ∈ w, isWord d = true) : Lexes false (c :: w) [(0, c :: w)] := by
  have key : (c == 32 || c == 10 || c == 9) = false ∧ (c == 35) = false := u8_all (p := fun c => isLetter c = true → (c == 32 || c == 10 || c == 9) = false ∧ (c == 35) = false) (by decide +kernel) c hc
  refine Lexes.one _ _ _ (by simp) (fun r => ?_) (fun r hr => ?_)
  · rw [List.cons_append, blankLen, if_neg (by simp [key.1]), if_neg (by simp [key.2])]
  · have hs : sepOK r := hr.resolve_left (by decide)
    have hm : ∀ d ∈ c :: w, isWord d = true := by
      intro d hd
      rcases List.mem_cons.1 hd with h | h
      · rw [h]; simp [isWord, hc]
      · exact hw d h
    have ht : (c :: (w ++ r)).takeWhile isWord = c :: w := takeWhile_sep isWord (c :: w) r hm (sep_word hs)
    rw [List.cons_append, tokL, if_pos hc, ht]
/-- Digits, with or without a - ahead. -/
theorem Lexes.number (c : UInt8) (w : List UInt8) (hc : (isDigit c || c == 45) = true) (hw : ∀ d ∈ w, isDigit d = true) (hm : c = 45 → w ≠ []) : Lexes false (c :: w) [(1, c :: w)] := by
  have key : (c == 32 || c == 10 || c == 9) = false ∧ (c == 35) = false ∧ isLetter c = false := u8_all (p := fun c => (isDigit c || c == 45) = true → (c == 32 || c == 10 || c == 9) = false ∧ (c == 35) = false ∧ isLetter c = false) (by decide +kernel) c hc
  refine Lexes.one _ _ _ (by simp) (fun r => ?_) (fun r hr => ?_)
  · rw [List.cons_append, blankLen, if_neg (by simp [key.1]), if_neg (by simp [key.2.1])]
  · have hs : sepOK r := hr.resolve_left (by decide)
    have ht : (w ++ r).takeWhile isDigit = w := takeWhile_sep isDigit w r hw (sep_digit hs)
    rw [List.cons_append, tokL, if_neg (by simp [key.2.2]), if_pos hc, ht, if_neg (by
      intro h
      simp only [Bool.and_eq_true, beq_iff_eq, List.isEmpty_iff] at h
      exact hm h.1 h.2)]
    rfl
theorem Lexes.sep {l : List UInt8} {ts : List (Int × List UInt8)} (h : Lexes false l ts) (c : UInt8) (hc : (c == 32 || c == 10 || c == 9) = true) : Lexes true (l ++ [c]) ts := by
  have hw : isWord c = false := u8_all (p := fun c => (c == 32 || c == 10 || c == 9) = true → isWord c = false) (by decide +kernel) c hc
  have := Lexes.append h (Lexes.blank c hc) (.inr ⟨by simp, hw⟩)
  rwa [List.append_nil] at this
/-- What Tokens tells of a text that falls into tokens. -/
theorem tokens_ok {l : List UInt8} {ts : List (Int × List UInt8)} (h : Lexes false l ts) (hl : l.length ≤ 65536) : ∃ qs : List S28, qs.map tkOf = ts ∧ say_Tokens.f ⟨l.toArray⟩ = some (qs, 0, 0) := by
  obtain ⟨qs, hq, e⟩ := h [] 0 (.inr trivial)
  refine ⟨qs, hq, ?_⟩
  have hs : (⟨l.toArray⟩ : ByteArray).size = l.length := by show Array.size _ = _; simp
  unfold say_Tokens.f
  rw [if_pos (by omega), lexed_list, lexL_lx _ _ _ (by simp [hs])]
  rw [List.append_nil] at e
  show (match lx l 0 with | .ok l => some (l, (0 : Int), (0 : Int)) | .error p => some ([], (p : Int), 4)) = _
  rw [e]
  simp [lx, lexL, blankLen, Except.map]

end Go.Proofs.Ytokkjnfdfbpphaa.A
namespace Go.Proofs.Ytokkjnfdfbpphaa.A
open Go.RowKit Go.Proofs.YtokkjnfdfbpphaaW.PrintWords Go.Proofs.YtokkjnfdfbpphaaW.PrintLast Go.Proofs.YtokkjnfdfbpphaaW.PrintMore
attribute [local go_sem] max2_int min2_int max_two min_two max_three min_three max_four min_four   -- for this text's walks alone
set_option linter.unusedVariables false
set_option linter.unusedSimpArgs false

/-- The digit of weight 16^m of a number in signs of 16. -/
def hexD (b m : Nat) : UInt8 := hexDigit (b / 16 ^ m % 16)
def hexTop (b j : Nat) : List UInt8 := (List.range j).map fun i => hexD b (15 - i)
def hexLow (b j : Nat) : List UInt8 := (List.range j).reverse.map fun i => hexD b i
def hex16 (b : Nat) : List UInt8 := hexTop b 16
theorem hexLow_16 (b : Nat) : hexLow b 16 = hex16 b := rfl
theorem hexTop_succ (b j : Nat) : hexTop b (j + 1) = hexTop b j ++ [hexD b (15 - j)] := by unfold hexTop; rw [List.range_succ, List.map_append]; rfl
theorem hexLow_succ (b j : Nat) : hexLow b (j + 1) = hexD b j :: hexLow b j := by unfold hexLow; rw [List.range_succ]; simp
theorem hexTop_length (b j : Nat) : (hexTop b j).length = j := by simp [hexTop]
theorem hexLow_length (b j : Nat) : (hexLow b j).length = j := by simp [hexLow]
def floatText (b : Nat) : List UInt8 := [102, 108, 111, 97, 116, 40] ++ quoted (hex16 b) ++ [41]
def nums (l : List UInt8) : List Int := l.map fun c => (c.toNat : Int)
theorem strOfNums_nums (l : List UInt8) : strOfNums (nums l) = ⟨l.toArray⟩ := by
  unfold strOfNums nums
  apply ba_ext
  have e : ((fun n : Int => UInt8.ofNat n.toNat) ∘ fun c : UInt8 => (c.toNat : Int)) = id := by funext c; simp
  simp [e]
theorem wraps_u64 (n : Int) (h₀ : 0 ≤ n) (h₁ : n < 2 ^ 64) : IntKind.u64.wrap n = n := by simp only [IntKind.wrap, IntKind.bits, IntKind.signed]; simp; omega
theorem u64_and15 (n : Int) (h₀ : 0 ≤ n) (h₁ : n < 18446744073709551616) : bits .and .u64 n 15 = n % 16 := bits_mask .u64 64 (by decide) wraps_u64 4 (by decide) n h₀ (by simpa using h₁)
theorem bt_hex (n : Nat) (h : n < 16) : bt (⟨#[48, 49, 50, 51, 52, 53, 54, 55, 56, 57, 97, 98, 99, 100, 101, 102]⟩ : ByteArray) (n : Int) = ((hexDigit n).toNat : Int) := by
  have key : ∀ m : Fin 16, bt (⟨#[48, 49, 50, 51, 52, 53, 54, 55, 56, 57, 97, 98, 99, 100, 101, 102]⟩ : ByteArray) (m.1 : Int) = ((hexDigit m.1).toNat : Int) := by decide
  exact key ⟨n, h⟩
theorem nums_snoc (l : List UInt8) (c : UInt8) : nums l ++ [(c.toNat : Int)] = nums (l ++ [c]) := by simp [nums]
theorem hex_shift (b j : Nat) (h : j < 16) : b / 2 ^ (60 - 4 * j) = b / 16 ^ (15 - j) := by
  rw [show 60 - 4 * j = 4 * (15 - j) by omega, Nat.pow_mul]
theorem floatText_length (b : Nat) : (floatText b).length ≤ 80 := by
  have := quoteBody_le (hex16 b)
  have h : (hex16 b).length = 16 := hexTop_length b 16
  unfold floatText quoted; simp; omega

end Go.Proofs.Ytokkjnfdfbpphaa.A
namespace Go.Proofs.Ytokkjnfdfbpphaa.A
open Go.RowKit Go.Proofs.YtokkjnfdfbpphaaW.PrintWords Go.Proofs.YtokkjnfdfbpphaaW.PrintLast Go.Proofs.YtokkjnfdfbpphaaW.PrintMore
attribute [local go_sem] max2_int min2_int max_two min_two max_three min_three max_four min_four   -- for this text's walks alone
set_option linter.unusedVariables false
set_option linter.unusedSimpArgs false

/-! numbers as digits -/
def digC (n : Nat) : UInt8 := UInt8.ofNat (48 + n)
def dec (n : Nat) : List UInt8 := if n < 10 then [digC n] else dec (n / 10) ++ [digC (n % 10)]
termination_by n
decreasing_by omega
theorem dec_small (n : Nat) (h : n < 10) : dec n = [digC n] := by rw [dec, if_pos h]
theorem dec_big (n : Nat) (h : ¬ n < 10) : dec n = dec (n / 10) ++ [digC (n % 10)] := by rw [dec, if_neg h]
theorem digC_facts (n : Nat) (h : n < 10) : isDigit (digC n) = true ∧ digVal (digC n) = n ∧ (digC n).toNat = 48 + n ∧ (digC n = 48 → n = 0) := by
  have key : ∀ m : Fin 10, isDigit (digC m.1) = true ∧ digVal (digC m.1) = m.1 ∧ (digC m.1).toNat = 48 + m.1 ∧ (digC m.1 = 48 → m.1 = 0) := by decide
  exact key ⟨n, h⟩
theorem dec_ind {P : Nat → Prop} (h0 : ∀ n, n < 10 → P n) (h1 : ∀ n, ¬ n < 10 → P (n / 10) → P n) : ∀ n, P n := by
  intro n
  induction n using Nat.strongRecOn with
  | ind n ih =>
    by_cases h : n < 10
    · exact h0 n h
    · exact h1 n h (ih (n / 10) (by omega))
theorem dec_digits : ∀ n, ∀ c ∈ dec n, isDigit c = true := by
  refine dec_ind (fun n h => ?_) (fun n h ih => ?_)
  · intro c hc; rw [dec_small n h] at hc; rw [List.mem_singleton.1 hc]; exact (digC_facts n h).1
  · intro c hc; rw [dec_big n h] at hc
    rcases List.mem_append.1 hc with hc | hc
    · exact ih c hc
    · rw [List.mem_singleton.1 hc]; exact (digC_facts _ (Nat.mod_lt _ (by decide))).1
theorem dec_ne (n : Nat) : dec n ≠ [] := by
  by_cases h : n < 10
  · rw [dec_small n h]; simp
  · rw [dec_big n h]; simp
theorem dec_length : ∀ (k n : Nat), 0 < k → n < 10 ^ k → (dec n).length ≤ k
  | 0, _, h, _ => absurd h (Nat.lt_irrefl 0)
  | k + 1, n, _, h => by
    by_cases h9 : n < 10
    · rw [dec_small n h9]; simp
    · rw [dec_big n h9, List.length_append]
      have hk : 0 < k := by
        rcases Nat.eq_zero_or_pos k with rfl | h2
        · simp at h; omega
        · exact h2
      have := dec_length k (n / 10) hk (by rw [Nat.pow_succ] at h; omega)
      simp; omega
theorem dec_64 (n : Nat) (h : n < 18446744073709551616) : (dec n).length ≤ 20 := by
  have e : (10 : Nat) ^ 20 = 100000000000000000000 := by decide
  exact dec_length 20 n (by decide) (by omega)
/-- No 0 is ahead, but in 0 itself. -/
theorem dec_head : ∀ n, 0 < n → (dec n).head? ≠ some 48 := by
  refine dec_ind (fun n h => ?_) (fun n h ih => ?_)
  · intro h0 e; rw [dec_small n h] at e
    have := (digC_facts n h).2.2.2 (by simpa using e)
    omega
  · intro h0 e; rw [dec_big n h] at e
    refine ih (by omega) ?_
    cases hd : dec (n / 10) with
    | nil => exact absurd hd (dec_ne _)
    | cons c t => rw [hd] at e; simpa using e
theorem digFold_append : ∀ (a b : List UInt8) (m : Nat), digFold m (a ++ b) = (digFold m a).bind fun n => digFold n b
  | [], b, m => rfl
  | c :: a, b, m => by
    rw [List.cons_append, digFold, digFold]
    split
    · rfl
    · exact digFold_append a b _
theorem digFold_dec : ∀ n, n < 18446744073709551616 → digFold 0 (dec n) = some n := by
  refine dec_ind (fun n h => ?_) (fun n h ih => ?_)
  · intro _; rw [dec_small n h, digFold, (digC_facts n h).2.1, if_neg (by omega)]; simp [digFold]
  · intro hn
    have hm : n % 10 < 10 := Nat.mod_lt _ (by decide)
    rw [dec_big n h, digFold_append, ih (by omega)]
    show digFold (n / 10) [digC (n % 10)] = some n
    rw [digFold, (digC_facts _ hm).2.1, if_neg (by omega), digFold]
    congr 1; omega
theorem digitsOf_dec (n : Nat) (h : n < 18446744073709551616) : digitsOf (dec n) = some n := by
  have hl := dec_64 n h
  have hf := digFold_dec n h
  cases hd : dec n with
  | nil => exact absurd hd (dec_ne n)
  | cons c t =>
    rw [hd] at hl hf
    rw [digitsOf, if_neg ?_, hf]
    rintro (⟨h1, h2⟩ | h2)
    · by_cases h0 : n = 0
      · subst h0
        rw [dec_small 0 (by decide)] at hd
        simp at hd
        rw [hd.2] at h1; simp at h1
      · exact dec_head n (by omega) (by rw [hd, h2]; rfl)
    · simp at hl; omega
/-- A whole number as a script says it. -/
def intText (n : Int) : List UInt8 := if n < 0 then 45 :: dec (-n).toNat else dec n.toNat
theorem numVal_int (n : Int) (h1 : -9223372036854775808 ≤ n) (h2 : n < 9223372036854775808) : numVal (intText n) = some n := by
  unfold numVal intText
  by_cases h : n < 0
  · simp only [if_pos h]
    rw [if_pos (by rfl), List.tail_cons, digitsOf_dec _ (by omega)]
    show numNeg _ = _
    unfold numNeg
    rw [if_neg (by omega)]
    congr 1; omega
  · rw [if_neg h, if_neg, digitsOf_dec _ (by omega)]
    · show numPos _ = _
      unfold numPos
      rw [if_neg (by omega)]
      congr 1; omega
    · intro e
      have := dec_digits n.toNat 45 (List.mem_of_mem_head? e)
      simp [isDigit] at this
theorem intText_length (n : Int) (h1 : -9223372036854775808 ≤ n) (h2 : n < 9223372036854775808) : (intText n).length ≤ 21 := by
  unfold intText
  split
  · have := dec_64 (-n).toNat (by omega); simp; omega
  · have := dec_64 n.toNat (by omega); omega
theorem intText_ne (n : Int) : intText n ≠ [] := by
  unfold intText; split
  · simp
  · exact dec_ne _
theorem Lexes.dec (n : Nat) : Lexes false (Go.Proofs.Ytokkjnfdfbpphaa.A.dec n) [(1, Go.Proofs.Ytokkjnfdfbpphaa.A.dec n)] := by
  have h := dec_digits n
  cases hd : Go.Proofs.Ytokkjnfdfbpphaa.A.dec n with
  | nil => exact absurd hd (dec_ne n)
  | cons c t =>
    rw [hd] at h
    have hc := h c (by simp)
    exact Lexes.number c t (by simp [hc]) (fun d hdt => h d (by simp [hdt])) (fun e => by rw [e] at hc; exact absurd hc (by decide))
theorem Lexes.int (n : Int) : Lexes false (intText n) [(1, intText n)] := by
  unfold intText
  by_cases h : n < 0
  · rw [if_pos h]
    exact Lexes.number 45 _ (by decide) (dec_digits _) (fun _ => dec_ne _)
  · rw [if_neg h]; exact Lexes.dec _
/-! the two ways in which digits are made -/
theorem digC_num (n : Nat) (h : n < 10) : (IntKind.u64.wrap (48 + (n : Int))) % 256 = ((digC n).toNat : Int) := by
  rw [(digC_facts n h).2.2.1, wraps_u64 _ (by omega) (by omega)]; omega
theorem set_mid {α : Type} (A : List α) (x y : α) (B : List α) : (A ++ x :: B).set A.length y = A ++ y :: B := by
  rw [List.set_append]; simp
theorem rd_mid (A : List Int) (x : Int) (B : List Int) (i : Int) (h : i = (A.length : Int)) : rd (A ++ x :: B) i = x := by
  subst h; simp [rd]
theorem list_ends {α : Type} (l : List α) : l = [] ∨ (∃ x, l = [x]) ∨ ∃ x m y, l = x :: (m ++ [y]) := by
  cases l with
  | nil => exact .inl rfl
  | cons x t =>
    right
    rcases List.eq_nil_or_concat t with h | ⟨m, y, h⟩
    · exact .inl ⟨x, by rw [h]⟩
    · exact .inr ⟨x, m, y, by rw [h]; simp⟩

end Go.Proofs.Ytokkjnfdfbpphaa.A
namespace Go.Proofs.Ytokkjnfdfbpphaa.A
open Go.RowKit Go.Proofs.YtokkjnfdfbpphaaW.PrintWords Go.Proofs.YtokkjnfdfbpphaaW.PrintLast Go.Proofs.YtokkjnfdfbpphaaW.PrintMore
attribute [local go_sem] max2_int min2_int max_two min_two max_three min_three max_four min_four   -- for this text's walks alone
set_option linter.unusedVariables false
set_option linter.unusedSimpArgs false

/-- A state of type 74 at block g of W; what its slices lead to came in by w0. -/
def IsS74 (w0 W : World) (g : Nat) (f0 : List (S28)) (f1 : Int) (f2 : Int) (f3 : Int) : Prop := ∃ A0 c0, W.heap[g]? = some (.cells #[.slice A0 f0.length c0, .int .i64 f1, .int .i64 f2, .int .i64 f3] 74 (0, 0)) ∧ w0.heap.size ≤ g ∧ Kd.C k28 w0 A0 f0.length f0
theorem IsS74.grown {w0 W : World} {g : Nat} {f0 : List (S28)} {f1 : Int} {f2 : Int} {f3 : Int} {W1 : World} {row : Option Nat} (h : IsS74 w0 W g f0 f1 f2 f3) (hw : W.grownBy W1 row) (hne : some g ≠ row) : IsS74 w0 W1 g f0 f1 f2 f3 := by
  obtain ⟨A0, c0, hb, hg, hr0⟩ := h
  exact ⟨A0, c0, blk_grown hb hw hne, hg, hr0⟩
theorem IsS74.own_neN {w0 W : World} {g : Nat} {f0 : List (S28)} {f1 : Int} {f2 : Int} {f3 : Int} {α : Type} {d : Kd α} {e : Nat} {base : Nat} {ok : Nat → Prop} {v : Value} {xs : List α} (h : IsS74 w0 W g f0 f1 f2 f3) (ho : Kd.N d e W base ok v xs) (ht : e ≠ 74) : some g ≠ v.ownBlock := by
  obtain ⟨A0, c0, hb, hg, hr0⟩ := h
  exact Kd.N_ne ho hb ht
theorem IsS74.fresh {w0 W : World} {g : Nat} {f0 : List (S28)} {f1 : Int} {f2 : Int} {f3 : Int} (h : IsS74 w0 W g f0 f1 f2 f3) : ∀ k, W.heap.size ≤ k → k ≠ g := by
  obtain ⟨A0, c0, hb, hg, hr0⟩ := h
  exact Kd.freshB hb
theorem IsS74.kept {w0 W : World} {g : Nat} {f0 : List (S28)} {f1 : Int} {f2 : Int} {f3 : Int} {W1 : World} {S : Nat → Prop} (h : IsS74 w0 W g f0 f1 f2 f3) (hk : Kept W W1 S) (hne : ¬ S g) : IsS74 w0 W1 g f0 f1 f2 f3 := by
  obtain ⟨A0, c0, hb, hg, hr0⟩ := h
  exact ⟨A0, c0, blk_kept hb hk hne, hg, hr0⟩
theorem IsS74.below {w0 W : World} {g : Nat} {f0 : List (S28)} {f1 : Int} {f2 : Int} {f3 : Int} {W1 : World} (h : IsS74 w0 W g f0 f1 f2 f3) (hw : Below W.heap.size W W1) : IsS74 w0 W1 g f0 f1 f2 f3 := h.grown (grown_of_below hw none) (by simp)
theorem IsS74.alloc {w0 W : World} {g : Nat} {f0 : List (S28)} {f1 : Int} {f2 : Int} {f3 : Int} (h : IsS74 w0 W g f0 f1 f2 f3) (o : Obj) : IsS74 w0 (W.alloc o) g f0 f1 f2 f3 := h.below (below_alloc (Below.refl _ _) o)
theorem IsS74.drewN {w0 W : World} {g : Nat} {f0 : List (S28)} {f1 : Int} {f2 : Int} {f3 : Int} (h : IsS74 w0 W g f0 f1 f2 f3) (m : Nat) : IsS74 w0 (W.drewN m) g f0 f1 f2 f3 := h
theorem IsS74.drew {w0 W : World} {g : Nat} {f0 : List (S28)} {f1 : Int} {f2 : Int} {f3 : Int} (h : IsS74 w0 W g f0 f1 f2 f3) : IsS74 w0 W.drew g f0 f1 f2 f3 := h
theorem IsS74.at_ {w0 W : World} {g : Nat} {f0 : List (S28)} {f1 : Int} {f2 : Int} {f3 : Int} {w' : World} {m : Nat} (hq : W.drewN m = w') (h : IsS74 w0 W g f0 f1 f2 f3) : IsS74 w0 w' g f0 f1 f2 f3 := by subst hq; exact IsS74.drewN h m
theorem IsS74.apart {w0 W : World} {g : Nat} {f0 : List (S28)} {f1 : Int} {f2 : Int} {f3 : Int} {α : Type} {d : Kd α} {e : Nat} {base : Nat} {ok : Nat → Prop} {v : Value} {xs : List α} (h : IsS74 w0 W g f0 f1 f2 f3) (ho : d.R e W base ok v xs) (ht : ∀ q, q ∈ e :: d.E → q ≠ 74) : d.R e W base (fun k => ok k ∧ k ≠ g) v xs := by
  obtain ⟨A0, c0, hb, hg, hr0⟩ := h
  exact Kd.R_types ho hb ht
theorem IsS74.own_ne {w0 W : World} {g : Nat} {f0 : List (S28)} {f1 : Int} {f2 : Int} {f3 : Int} {α : Type} {d : Kd α} {e : Nat} {base : Nat} {ok : Nat → Prop} {v : Value} {xs : List α} (h : IsS74 w0 W g f0 f1 f2 f3) (ho : d.R e W base ok v xs) (ht : e ≠ 74) : some g ≠ v.ownBlock := by
  obtain ⟨A0, c0, hb, hg, hr0⟩ := h
  exact Kd.R_ne ho hb ht
theorem IsS74.apartQ {w0 W : World} {g : Nat} {f0 : List (S28)} {f1 : Int} {f2 : Int} {f3 : Int} {α : Type} {d : Kd α} {e : Nat} {base : Nat} {ok : Nat → Prop} {v : Value} {xs : List α} (h : IsS74 w0 W g f0 f1 f2 f3) (ho : d.Q e W base ok v xs) (ht : ∀ q, q ∈ e :: d.E → q ≠ 74) : d.Q e W base (fun k => ok k ∧ k ≠ g) v xs := by
  obtain ⟨A0, c0, hb, hg, hr0⟩ := h
  exact Kd.Q_types ho hb ht
theorem IsS74.own_neQ {w0 W : World} {g : Nat} {f0 : List (S28)} {f1 : Int} {f2 : Int} {f3 : Int} {α : Type} {d : Kd α} {e : Nat} {base : Nat} {ok : Nat → Prop} {v : Value} {xs : List α} (h : IsS74 w0 W g f0 f1 f2 f3) (ho : d.Q e W base ok v xs) (ht : e ≠ 74) : some g ≠ v.ownBlock := by
  obtain ⟨A0, c0, hb, hg, hr0⟩ := h
  exact Kd.Q_ne ho hb ht
theorem IsS74.apartS {w0 W : World} {g : Nat} {f0 : List (S28)} {f1 : Int} {f2 : Int} {f3 : Int} {α : Type} {d : Kd α} {e : Nat} {base : Nat} {ok : Nat → Prop} {v : Value} {xs : List α} (h : IsS74 w0 W g f0 f1 f2 f3) (ho : d.S e W base ok v xs) (ht : ∀ q, q ∈ e :: d.E → q ≠ 74) : d.S e W base (fun k => ok k ∧ k ≠ g) v xs := by
  obtain ⟨A0, c0, hb, hg, hr0⟩ := h
  exact Kd.S_types ho hb ht
theorem IsS74.own_neS {w0 W : World} {g : Nat} {f0 : List (S28)} {f1 : Int} {f2 : Int} {f3 : Int} {α : Type} {d : Kd α} {e : Nat} {base : Nat} {ok : Nat → Prop} {v : Value} {xs : List α} (h : IsS74 w0 W g f0 f1 f2 f3) (ho : d.S e W base ok v xs) (ht : e ≠ 74) : some g ≠ v.ownBlock := by
  obtain ⟨A0, c0, hb, hg, hr0⟩ := h
  exact Kd.S_ne ho hb ht
theorem IsS74.lt {w0 W : World} {g : Nat} {f0 : List (S28)} {f1 : Int} {f2 : Int} {f3 : Int} (h : IsS74 w0 W g f0 f1 f2 f3) : g < W.heap.size := by
  obtain ⟨A0, c0, hb, hg, hr0⟩ := h
  exact blk_lt hb
theorem IsS74.ge {w0 W : World} {g : Nat} {f0 : List (S28)} {f1 : Int} {f2 : Int} {f3 : Int} (h : IsS74 w0 W g f0 f1 f2 f3) : w0.heap.size ≤ g := by
  obtain ⟨A0, c0, hb, hg, hr0⟩ := h
  exact hg
theorem IsS74.ne_blk {w0 W : World} {g : Nat} {f0 : List (S28)} {f1 : Int} {f2 : Int} {f3 : Int} {a : Nat} {cs : Array Value} {t : TypeId} {fr : Nat × Nat} (h : IsS74 w0 W g f0 f1 f2 f3) (hb2 : W.heap[a]? = some (.cells cs t fr)) (ht : t ≠ 74) : g ≠ a := by
  obtain ⟨A0, c0, hb, hg, hr0⟩ := h
  rintro rfl
  rw [hb] at hb2
  injection hb2 with hb2
  injection hb2 with _ ht2
  exact ht ht2.symm
theorem IsS74.far {w0 W : World} {g : Nat} {f0 : List (S28)} {f1 : Int} {f2 : Int} {f3 : Int} {p : Addr} (h : IsS74 w0 W g f0 f1 f2 f3) (hne : g ≠ p.block) (u : Value) : IsS74 w0 (W.setCell p u) g f0 f1 f2 f3 := by
  obtain ⟨A0, c0, hb, hg, hr0⟩ := h
  exact ⟨A0, c0, blk_far hb hne u, hg, hr0⟩
theorem cellS74_0 {W : World} {g : Nat} {A0 : Option Addr} {c0 : Nat} {f0 : List (S28)} {f1 : Int} {f2 : Int} {f3 : Int} (h : W.heap[g]? = some (.cells #[.slice A0 f0.length c0, .int .i64 f1, .int .i64 f2, .int .i64 f3] 74 (0, 0))) : W.cell? ⟨g, 0, none⟩ = some (.slice A0 f0.length c0) := (blk_cell h 0).trans rfl
theorem cellS74_1 {W : World} {g : Nat} {A0 : Option Addr} {c0 : Nat} {f0 : List (S28)} {f1 : Int} {f2 : Int} {f3 : Int} (h : W.heap[g]? = some (.cells #[.slice A0 f0.length c0, .int .i64 f1, .int .i64 f2, .int .i64 f3] 74 (0, 0))) : W.cell? ⟨g, 1, none⟩ = some (.int .i64 f1) := (blk_cell h 1).trans rfl
theorem IsS74.set_1 {w0 W : World} {g : Nat} {f0 : List (S28)} {f1 : Int} {f2 : Int} {f3 : Int} (h : IsS74 w0 W g f0 f1 f2 f3) (x : Int) : IsS74 w0 (W.setCell ⟨g, 1, none⟩ (.int .i64 x)) g f0 x f2 f3 := by
  obtain ⟨A0, c0, hb, hg, hr0⟩ := h
  exact ⟨A0, c0, by simpa using blk_set hb 1 (.int .i64 x), hg, hr0⟩
theorem cellS74_2 {W : World} {g : Nat} {A0 : Option Addr} {c0 : Nat} {f0 : List (S28)} {f1 : Int} {f2 : Int} {f3 : Int} (h : W.heap[g]? = some (.cells #[.slice A0 f0.length c0, .int .i64 f1, .int .i64 f2, .int .i64 f3] 74 (0, 0))) : W.cell? ⟨g, 2, none⟩ = some (.int .i64 f2) := (blk_cell h 2).trans rfl
theorem IsS74.set_2 {w0 W : World} {g : Nat} {f0 : List (S28)} {f1 : Int} {f2 : Int} {f3 : Int} (h : IsS74 w0 W g f0 f1 f2 f3) (x : Int) : IsS74 w0 (W.setCell ⟨g, 2, none⟩ (.int .i64 x)) g f0 f1 x f3 := by
  obtain ⟨A0, c0, hb, hg, hr0⟩ := h
  exact ⟨A0, c0, by simpa using blk_set hb 2 (.int .i64 x), hg, hr0⟩
theorem cellS74_3 {W : World} {g : Nat} {A0 : Option Addr} {c0 : Nat} {f0 : List (S28)} {f1 : Int} {f2 : Int} {f3 : Int} (h : W.heap[g]? = some (.cells #[.slice A0 f0.length c0, .int .i64 f1, .int .i64 f2, .int .i64 f3] 74 (0, 0))) : W.cell? ⟨g, 3, none⟩ = some (.int .i64 f3) := (blk_cell h 3).trans rfl
theorem IsS74.set_3 {w0 W : World} {g : Nat} {f0 : List (S28)} {f1 : Int} {f2 : Int} {f3 : Int} (h : IsS74 w0 W g f0 f1 f2 f3) (x : Int) : IsS74 w0 (W.setCell ⟨g, 3, none⟩ (.int .i64 x)) g f0 f1 f2 x := by
  obtain ⟨A0, c0, hb, hg, hr0⟩ := h
  exact ⟨A0, c0, by simpa using blk_set hb 3 (.int .i64 x), hg, hr0⟩
theorem IsS74.new (w0 W : World) (A0 : Option Addr) (c0 : Nat) (f0 : List (S28)) (f1 : Int) (f2 : Int) (f3 : Int) (hB : Below w0.heap.size w0 W) (hr0 : Kd.C k28 w0 A0 f0.length f0) : IsS74 w0 (W.alloc (.cells #[.slice A0 f0.length c0, .int .i64 f1, .int .i64 f2, .int .i64 f3] 74)) W.heap.size f0 f1 f2 f3 := ⟨A0, c0, by simpa using heap_alloc_new W _, hB.size, hr0⟩

/-! ### say_parser_here: function 68 -/
def say_parser_here.f (s0_0 : List (S28)) (s0_1 : Int) (s0_2 : Int) (s0_3 : Int) : Option (Int × Int × Int × Int) := if s0_1 < (s0_0.length : Int) then (if 0 ≤ s0_1 then (some ((rd_T28 s0_0 s0_1).f2, s0_1, s0_2, s0_3)) else (none)) else (some (s0_2, s0_1, s0_2, s0_3))
set_option maxHeartbeats 8000000 in
set_option maxRecDepth 100000 in
theorem say_parser_here.calls (g : Nat) (s0_0 : List (S28)) (s0_1 : Int) (s0_2 : Int) (s0_3 : Int) (r1 : Int) (r2 : Int) (r3 : Int) (r4 : Int) (w0 w : World) (hI : IsS74 w0 w g s0_0 s0_1 s0_2 s0_3) (hB : Below w0.heap.size w0 w) (h : say_parser_here.f s0_0 s0_1 s0_2 s0_3 = some (r1, r2, r3, r4)) :
    Calls Try.prog 68 #[.pointer (some ⟨g, 0, none⟩)] w fun e w' => e = .returned (.int .i64 r1) ∧ IsS74 w0 w' g s0_0 r2 r3 r4 ∧ Below w0.heap.size w0 w' ∧ KeepBut w w' g none := by
  have HI0 := Aside0.mk hI
  have HK := Aside0.mk (KeepBut.refl w g none)
  have HL := Aside0.mk hB.size
  clear hI
  have HW0 := Aside0.mk hB.size
  have HB := Aside0.mk hB
  clear hB
  have H : (if s0_1 < (s0_0.length : Int) then (if 0 ≤ s0_1 then (some ((rd_T28 s0_0 s0_1).f2, s0_1, s0_2, s0_3)) else (none)) else (some (s0_2, s0_1, s0_2, s0_3))) = some (r1, r2, r3, r4) := h
  clear h
  by_cases c2 : s0_1 < (s0_0.length : Int)
  · rw [if_pos c2] at H
    have c2b0 : decide (s0_1 < (s0_0.length : Int)) = true := decide_eq_true c2
    clear c2
    by_cases c3 : 0 ≤ s0_1
    · rw [if_pos c3] at H
      have c3b0 : decide (0 ≤ s0_1) = true := decide_eq_true c3
      clear c3
      simp only [Option.some.injEq, Prod.mk.injEq] at H
      obtain ⟨rfl, rfl, rfl, rfl⟩ := H
      obtain ⟨ASz4_0, cSz4_0, HGz4, hgz4, HSz4_0⟩ := HI0.out
      have hcz4_0 := cellS74_0 HGz4
      have hcz4_1 := cellS74_1 HGz4
      have hcz4_2 := cellS74_2 HGz4
      have hcz4_3 := cellS74_3 HGz4
      have hfz4_1 := blk_frozen HGz4 1
      have hfz4_2 := blk_frozen HGz4 2
      have hfz4_3 := blk_frozen HGz4 3
      clear HGz4 hgz4
      have p125 : 0 ≤ (s0_1 : Int) := of_decide_eq_true (by first | (with_reducible assumption) | assumption)
      have q125 : s0_1 < (s0_0.length : Int) := of_decide_eq_true (by first | (with_reducible assumption) | assumption)
      obtain ⟨ad125, e125, hx125_0, hx125_1, hx125_2⟩ := at_T28 HSz4_0 s0_1 p125 q125
      cases e125
      replace hx125_0 := pw_cell_below HB.out hx125_0
      replace hx125_1 := pw_cell_below HB.out hx125_1
      replace hx125_2 := pw_cell_below HB.out hx125_2
      replace p125 := eq_true p125
      replace q125 := eq_true q125
      go_enter Try.func68, Try.ntmps68
      go_wp2
      repeat (go_quiet (fail); try go_wp2)
      go_ret
      exact ⟨by first | rfl | (simp [errW_none, errW_some] <;> rfl) | (simp [*, errW_none, errW_some] <;> rfl), by repeat (first | (with_reducible first | exact HI0.out | apply IsS74.alloc | apply IsS74.drewN | apply IsS74.drew | apply IsS74.set_1 | apply IsS74.set_2 | apply IsS74.set_3) | exact HI0.out), by repeat (first | (with_reducible first | exact HB.out | apply below_alloc | apply pw_below_drewN | apply below_drew1 | refine below_set ?_ (IsS74.ge HI0.out)) | exact HB.out), by repeat (first | (with_reducible first | exact HK.out | apply KeepBut.set_ | apply keep_drewN | apply keep_drew | apply keep_alloc) | exact HK.out)⟩
    · rw [if_neg c3] at H
      exact absurd H (by simp)
  · rw [if_neg c2] at H
    have c2b0 : decide (s0_1 < (s0_0.length : Int)) = false := decide_eq_false c2
    clear c2
    simp only [Option.some.injEq, Prod.mk.injEq] at H
    obtain ⟨rfl, rfl, rfl, rfl⟩ := H
    obtain ⟨ASz5_0, cSz5_0, HGz5, hgz5, HSz5_0⟩ := HI0.out
    have hcz5_0 := cellS74_0 HGz5
    have hcz5_1 := cellS74_1 HGz5
    have hcz5_2 := cellS74_2 HGz5
    have hcz5_3 := cellS74_3 HGz5
    have hfz5_1 := blk_frozen HGz5 1
    have hfz5_2 := blk_frozen HGz5 2
    have hfz5_3 := blk_frozen HGz5 3
    clear HGz5 hgz5
    go_enter Try.func68, Try.ntmps68
    go_wp2
    repeat (go_quiet (fail); try go_wp2)
    go_ret
    exact ⟨by first | rfl | (simp [errW_none, errW_some] <;> rfl) | (simp [*, errW_none, errW_some] <;> rfl), by repeat (first | (with_reducible first | exact HI0.out | apply IsS74.alloc | apply IsS74.drewN | apply IsS74.drew | apply IsS74.set_1 | apply IsS74.set_2 | apply IsS74.set_3) | exact HI0.out), by repeat (first | (with_reducible first | exact HB.out | apply below_alloc | apply pw_below_drewN | apply below_drew1 | refine below_set ?_ (IsS74.ge HI0.out)) | exact HB.out), by repeat (first | (with_reducible first | exact HK.out | apply KeepBut.set_ | apply keep_drewN | apply keep_drew | apply keep_alloc) | exact HK.out)⟩

end Go.Proofs.Ytokkjnfdfbpphaa.A
namespace Go.Proofs.Ytokkjnfdfbpphaa.A
open Go.RowKit Go.Proofs.YtokkjnfdfbpphaaW.PrintWords Go.Proofs.YtokkjnfdfbpphaaW.PrintLast Go.Proofs.YtokkjnfdfbpphaaW.PrintMore
attribute [local go_sem] max2_int min2_int max_two min_two max_three min_three max_four min_four   -- for this text's walks alone
set_option linter.unusedVariables false
set_option linter.unusedSimpArgs false

/-! ### say_parser_fail: function 55 -/
def say_parser_fail.f (s0_0 : List (S28)) (s0_1 : Int) (s0_2 : Int) (s0_3 : Int) : Option (Int × Int × Int) := if s0_3 < 0 then ((say_parser_here.f s0_0 s0_1 s0_2 s0_3).bind fun bt126 => (some (bt126.2.1, bt126.2.2.1, bt126.1))) else (some (s0_1, s0_2, s0_3))
set_option maxHeartbeats 8000000 in
set_option maxRecDepth 100000 in
theorem say_parser_fail.calls (g : Nat) (s0_0 : List (S28)) (s0_1 : Int) (s0_2 : Int) (s0_3 : Int) (r1 : Int) (r2 : Int) (r3 : Int) (w0 w : World) (hI : IsS74 w0 w g s0_0 s0_1 s0_2 s0_3) (hB : Below w0.heap.size w0 w) (h : say_parser_fail.f s0_0 s0_1 s0_2 s0_3 = some (r1, r2, r3)) :
    Calls Try.prog 55 #[.pointer (some ⟨g, 0, none⟩)] w fun e w' => e = .returned (.tuple #[]) ∧ IsS74 w0 w' g s0_0 r1 r2 r3 ∧ Below w0.heap.size w0 w' ∧ KeepBut w w' g none := by
  have HI0 := Aside0.mk hI
  have HK := Aside0.mk (KeepBut.refl w g none)
  have HL := Aside0.mk hB.size
  clear hI
  have HW0 := Aside0.mk hB.size
  have HB := Aside0.mk hB
  clear hB
  have H : (if s0_3 < 0 then ((say_parser_here.f s0_0 s0_1 s0_2 s0_3).bind fun bt126 => (some (bt126.2.1, bt126.2.2.1, bt126.1))) else (some (s0_1, s0_2, s0_3))) = some (r1, r2, r3) := h
  clear h
  by_cases c2 : s0_3 < 0
  · rw [if_pos c2] at H
    have c2b0 : decide (s0_3 < 0) = true := decide_eq_true c2
    clear c2
    replace H := Option.bind_eq_some_iff.mp H
    obtain ⟨⟨t126, t127, t128, t129⟩, A30, H⟩ := H
    replace H : (some (t127, t128, t126)) = some (r1, r2, r3) := H
    have A3 := Aside0.mk A30
    clear A30
    simp only [Option.some.injEq, Prod.mk.injEq] at H
    obtain ⟨rfl, rfl, rfl⟩ := H
    obtain ⟨ASz4_0, cSz4_0, HGz4, hgz4, HSz4_0⟩ := HI0.out
    have hcz4_0 := cellS74_0 HGz4
    have hcz4_1 := cellS74_1 HGz4
    have hcz4_2 := cellS74_2 HGz4
    have hcz4_3 := cellS74_3 HGz4
    have hfz4_1 := blk_frozen HGz4 1
    have hfz4_2 := blk_frozen HGz4 2
    have hfz4_3 := blk_frozen HGz4 3
    clear HGz4 hgz4
    go_enter Try.func55, Try.ntmps55
    go_wp2_with (first | ((with_reducible refine gate_callee (f := 68) rfl ?_); refine goesL_ (some 9) rfl rfl Try.func68 (by kernel_rfl) rfl #[.pointer (some ⟨g, 0, none⟩)] rfl (by (try simp only [List.map_toArray, List.map_cons, List.map_nil]); first | done | rfl | (simp only [List.length_drop, List.length_take]; rfl)) ?_; (with_reducible refine (say_parser_here.calls g s0_0 s0_1 s0_2 s0_3 t126 t127 t128 t129 w0 _ ?side1 ?side2 A3.out).mono ?_); (case side1 => repeat (first | (with_reducible first | exact HI0.out | apply IsS74.alloc | apply IsS74.drewN | apply IsS74.drew | apply IsS74.set_1 | apply IsS74.set_2 | apply IsS74.set_3) | exact HI0.out)); (case side2 => repeat (first | (with_reducible first | exact HB.out | apply below_alloc | apply pw_below_drewN | apply below_drew1 | refine below_set ?_ (IsS74.ge HI0.out)) | exact HB.out)); rintro e w5 ⟨rfl, hi, hb, hk⟩; refine ⟨_, rfl, ?_⟩; have n0_ := Aside0.mk (KeepBut.trans (by repeat (first | (with_reducible first | exact HK.out | apply KeepBut.set_ | apply keep_drewN | apply keep_drew | apply keep_alloc) | exact HK.out)) hk (.inl rfl)); have n1_ := Aside0.mk (hb); have n2_ := Aside0.mk (hi); clear HK; clear HB; clear HI0; have HK := n0_; have HB := n1_; have HI0 := n2_; clear n0_ n1_ n2_; (try clear hb); (try clear hb2); (try clear hk); (try clear hi); obtain ⟨ASz6_0, cSz6_0, HGz6, hgz6, HSz6_0⟩ := HI0.out; have hcz6_0 := cellS74_0 HGz6; have hcz6_1 := cellS74_1 HGz6; have hcz6_2 := cellS74_2 HGz6; have hcz6_3 := cellS74_3 HGz6; have hfz6_1 := blk_frozen HGz6 1; have hfz6_2 := blk_frozen HGz6 2; have hfz6_3 := blk_frozen HGz6 3; clear HGz6 hgz6))
    first | go_end0 | ((try simp only [Exit.inBlock, Exit.then]); refine bodyPost_ret (results_none rfl _ _ _) rfl ?_)
    exact ⟨by first | rfl | (simp [errW_none, errW_some] <;> rfl) | (simp [*, errW_none, errW_some] <;> rfl), by repeat (first | (with_reducible first | exact HI0.out | apply IsS74.alloc | apply IsS74.drewN | apply IsS74.drew | apply IsS74.set_1 | apply IsS74.set_2 | apply IsS74.set_3) | exact HI0.out), by repeat (first | (with_reducible first | exact HB.out | apply below_alloc | apply pw_below_drewN | apply below_drew1 | refine below_set ?_ (IsS74.ge HI0.out)) | exact HB.out), by repeat (first | (with_reducible first | exact HK.out | apply KeepBut.set_ | apply keep_drewN | apply keep_drew | apply keep_alloc) | exact HK.out)⟩
  · rw [if_neg c2] at H
    have c2b0 : decide (s0_3 < 0) = false := decide_eq_false c2
    clear c2
    simp only [Option.some.injEq, Prod.mk.injEq] at H
    obtain ⟨rfl, rfl, rfl⟩ := H
    obtain ⟨ASz7_0, cSz7_0, HGz7, hgz7, HSz7_0⟩ := HI0.out
    have hcz7_0 := cellS74_0 HGz7
    have hcz7_1 := cellS74_1 HGz7
    have hcz7_2 := cellS74_2 HGz7
    have hcz7_3 := cellS74_3 HGz7
    have hfz7_1 := blk_frozen HGz7 1
    have hfz7_2 := blk_frozen HGz7 2
    have hfz7_3 := blk_frozen HGz7 3
    clear HGz7 hgz7
    go_enter Try.func55, Try.ntmps55
    go_wp2
    first | go_end0 | ((try simp only [Exit.inBlock, Exit.then]); refine bodyPost_ret (results_none rfl _ _ _) rfl ?_)
    exact ⟨by first | rfl | (simp [errW_none, errW_some] <;> rfl) | (simp [*, errW_none, errW_some] <;> rfl), by repeat (first | (with_reducible first | exact HI0.out | apply IsS74.alloc | apply IsS74.drewN | apply IsS74.drew | apply IsS74.set_1 | apply IsS74.set_2 | apply IsS74.set_3) | exact HI0.out), by repeat (first | (with_reducible first | exact HB.out | apply below_alloc | apply pw_below_drewN | apply below_drew1 | refine below_set ?_ (IsS74.ge HI0.out)) | exact HB.out), by repeat (first | (with_reducible first | exact HK.out | apply KeepBut.set_ | apply keep_drewN | apply keep_drew | apply keep_alloc) | exact HK.out)⟩

end Go.Proofs.Ytokkjnfdfbpphaa.A
namespace Go.Proofs.Ytokkjnfdfbpphaa.A
open Go.RowKit Go.Proofs.YtokkjnfdfbpphaaW.PrintWords Go.Proofs.YtokkjnfdfbpphaaW.PrintLast Go.Proofs.YtokkjnfdfbpphaaW.PrintMore
attribute [local go_sem] max2_int min2_int max_two min_two max_three min_three max_four min_four   -- for this text's walks alone
set_option linter.unusedVariables false
set_option linter.unusedSimpArgs false

/-! ### say_parser_take: function 61 -/
def say_parser_take.f (s0_0 : List (S28)) (s0_1 : Int) (s0_2 : Int) (s0_3 : Int) (a1 : Int) : Option (ByteArray × Int × Int × Int) := if s0_3 ≥ 0 then (some ((⟨#[]⟩ : ByteArray), s0_1, s0_2, s0_3)) else (if s0_1 ≥ (s0_0.length : Int) then ((say_parser_fail.f s0_0 s0_1 s0_2 s0_3).bind fun bt130 => (some ((⟨#[]⟩ : ByteArray), bt130.1, bt130.2.1, bt130.2.2))) else (if 0 ≤ s0_1 then (if s0_1 < (s0_0.length : Int) then (if ((rd_T28 s0_0 s0_1).f0) = a1 then (if 0 ≤ (wrap64 ((wrap64 (s0_1 + 1)) - 1)) then (if (wrap64 ((wrap64 (s0_1 + 1)) - 1)) < (s0_0.length : Int) then (some ((rd_T28 s0_0 (wrap64 ((wrap64 (s0_1 + 1)) - 1))).f1, wrap64 (s0_1 + 1), s0_2, s0_3)) else (none)) else (none)) else ((say_parser_fail.f s0_0 s0_1 s0_2 s0_3).bind fun bt135 => (some ((⟨#[]⟩ : ByteArray), bt135.1, bt135.2.1, bt135.2.2)))) else (none)) else (none)))
set_option maxHeartbeats 8000000 in
set_option maxRecDepth 100000 in
theorem say_parser_take.calls (g : Nat) (s0_0 : List (S28)) (s0_1 : Int) (s0_2 : Int) (s0_3 : Int) (a1 : Int) (r1 : ByteArray) (r2 : Int) (r3 : Int) (r4 : Int) (w0 w : World) (hI : IsS74 w0 w g s0_0 s0_1 s0_2 s0_3) (hB : Below w0.heap.size w0 w) (h : say_parser_take.f s0_0 s0_1 s0_2 s0_3 a1 = some (r1, r2, r3, r4)) :
    Calls Try.prog 61 #[.pointer (some ⟨g, 0, none⟩), .int .i64 a1] w fun e w' => e = .returned (.string r1) ∧ IsS74 w0 w' g s0_0 r2 r3 r4 ∧ Below w0.heap.size w0 w' ∧ KeepBut w w' g none := by
  have HI0 := Aside0.mk hI
  have HK := Aside0.mk (KeepBut.refl w g none)
  have HL := Aside0.mk hB.size
  clear hI
  have HW0 := Aside0.mk hB.size
  have HB := Aside0.mk hB
  clear hB
  have H : (if s0_3 ≥ 0 then (some ((⟨#[]⟩ : ByteArray), s0_1, s0_2, s0_3)) else (if s0_1 ≥ (s0_0.length : Int) then ((say_parser_fail.f s0_0 s0_1 s0_2 s0_3).bind fun bt130 => (some ((⟨#[]⟩ : ByteArray), bt130.1, bt130.2.1, bt130.2.2))) else (if 0 ≤ s0_1 then (if s0_1 < (s0_0.length : Int) then (if ((rd_T28 s0_0 s0_1).f0) = a1 then (if 0 ≤ (wrap64 ((wrap64 (s0_1 + 1)) - 1)) then (if (wrap64 ((wrap64 (s0_1 + 1)) - 1)) < (s0_0.length : Int) then (some ((rd_T28 s0_0 (wrap64 ((wrap64 (s0_1 + 1)) - 1))).f1, wrap64 (s0_1 + 1), s0_2, s0_3)) else (none)) else (none)) else ((say_parser_fail.f s0_0 s0_1 s0_2 s0_3).bind fun bt135 => (some ((⟨#[]⟩ : ByteArray), bt135.1, bt135.2.1, bt135.2.2)))) else (none)) else (none)))) = some (r1, r2, r3, r4) := h
  clear h
  by_cases c3 : s0_3 ≥ 0
  · rw [if_pos c3] at H
    have c3b0 : decide (0 ≤ s0_3) = true := decide_eq_true c3
    clear c3
    simp only [Option.some.injEq, Prod.mk.injEq] at H
    obtain ⟨rfl, rfl, rfl, rfl⟩ := H
    obtain ⟨ASz4_0, cSz4_0, HGz4, hgz4, HSz4_0⟩ := HI0.out
    have hcz4_0 := cellS74_0 HGz4
    have hcz4_1 := cellS74_1 HGz4
    have hcz4_2 := cellS74_2 HGz4
    have hcz4_3 := cellS74_3 HGz4
    have hfz4_1 := blk_frozen HGz4 1
    have hfz4_2 := blk_frozen HGz4 2
    have hfz4_3 := blk_frozen HGz4 3
    clear HGz4 hgz4
    go_enter Try.func61, Try.ntmps61
    go_wp2
    repeat (go_quiet (fail); try go_wp2)
    go_ret
    exact ⟨by first | rfl | (simp [errW_none, errW_some] <;> rfl) | (simp [*, errW_none, errW_some] <;> rfl), by repeat (first | (with_reducible first | exact HI0.out | apply IsS74.alloc | apply IsS74.drewN | apply IsS74.drew | apply IsS74.set_1 | apply IsS74.set_2 | apply IsS74.set_3) | exact HI0.out), by repeat (first | (with_reducible first | exact HB.out | apply below_alloc | apply pw_below_drewN | apply below_drew1 | refine below_set ?_ (IsS74.ge HI0.out)) | exact HB.out), by repeat (first | (with_reducible first | exact HK.out | apply KeepBut.set_ | apply keep_drewN | apply keep_drew | apply keep_alloc) | exact HK.out)⟩
  · rw [if_neg c3] at H
    have c3b0 : decide (0 ≤ s0_3) = false := decide_eq_false c3
    clear c3
    by_cases c5 : s0_1 ≥ (s0_0.length : Int)
    · rw [if_pos c5] at H
      have c5b0 : decide ((s0_0.length : Int) ≤ s0_1) = true := decide_eq_true c5
      clear c5
      replace H := Option.bind_eq_some_iff.mp H
      obtain ⟨⟨t130, t131, t132⟩, A60, H⟩ := H
      replace H : (some ((⟨#[]⟩ : ByteArray), t130, t131, t132)) = some (r1, r2, r3, r4) := H
      have A6 := Aside0.mk A60
      clear A60
      simp only [Option.some.injEq, Prod.mk.injEq] at H
      obtain ⟨rfl, rfl, rfl, rfl⟩ := H
      obtain ⟨ASz7_0, cSz7_0, HGz7, hgz7, HSz7_0⟩ := HI0.out
      have hcz7_0 := cellS74_0 HGz7
      have hcz7_1 := cellS74_1 HGz7
      have hcz7_2 := cellS74_2 HGz7
      have hcz7_3 := cellS74_3 HGz7
      have hfz7_1 := blk_frozen HGz7 1
      have hfz7_2 := blk_frozen HGz7 2
      have hfz7_3 := blk_frozen HGz7 3
      clear HGz7 hgz7
      go_enter Try.func61, Try.ntmps61
      go_wp2_with (first | (go_at_call 55; (with_reducible refine (say_parser_fail.calls g s0_0 s0_1 s0_2 s0_3 t130 t131 t132 w0 _ ?side1 ?side2 A6.out).mono ?_); (case side1 => repeat (first | (with_reducible first | exact HI0.out | apply IsS74.alloc | apply IsS74.drewN | apply IsS74.drew | apply IsS74.set_1 | apply IsS74.set_2 | apply IsS74.set_3) | exact HI0.out)); (case side2 => repeat (first | (with_reducible first | exact HB.out | apply below_alloc | apply pw_below_drewN | apply below_drew1 | refine below_set ?_ (IsS74.ge HI0.out)) | exact HB.out)); rintro e w8 ⟨rfl, hi, hb, hk⟩; have n0_ := Aside0.mk (KeepBut.trans (by repeat (first | (with_reducible first | exact HK.out | apply KeepBut.set_ | apply keep_drewN | apply keep_drew | apply keep_alloc) | exact HK.out)) hk (.inl rfl)); have n1_ := Aside0.mk (hb); have n2_ := Aside0.mk (hi); clear HK; clear HB; clear HI0; have HK := n0_; have HB := n1_; have HI0 := n2_; clear n0_ n1_ n2_; (try clear hb); (try clear hb2); (try clear hk); (try clear hi)))
      repeat (go_quiet (first | (go_at_call 55; (with_reducible refine (say_parser_fail.calls g s0_0 s0_1 s0_2 s0_3 t130 t131 t132 w0 _ ?side1 ?side2 A6.out).mono ?_); (case side1 => repeat (first | (with_reducible first | exact HI0.out | apply IsS74.alloc | apply IsS74.drewN | apply IsS74.drew | apply IsS74.set_1 | apply IsS74.set_2 | apply IsS74.set_3) | exact HI0.out)); (case side2 => repeat (first | (with_reducible first | exact HB.out | apply below_alloc | apply pw_below_drewN | apply below_drew1 | refine below_set ?_ (IsS74.ge HI0.out)) | exact HB.out)); rintro e w8 ⟨rfl, hi, hb, hk⟩; have n0_ := Aside0.mk (KeepBut.trans (by repeat (first | (with_reducible first | exact HK.out | apply KeepBut.set_ | apply keep_drewN | apply keep_drew | apply keep_alloc) | exact HK.out)) hk (.inl rfl)); have n1_ := Aside0.mk (hb); have n2_ := Aside0.mk (hi); clear HK; clear HB; clear HI0; have HK := n0_; have HB := n1_; have HI0 := n2_; clear n0_ n1_ n2_; (try clear hb); (try clear hb2); (try clear hk); (try clear hi))); try go_wp2_with (first | (go_at_call 55; (with_reducible refine (say_parser_fail.calls g s0_0 s0_1 s0_2 s0_3 t130 t131 t132 w0 _ ?side1 ?side2 A6.out).mono ?_); (case side1 => repeat (first | (with_reducible first | exact HI0.out | apply IsS74.alloc | apply IsS74.drewN | apply IsS74.drew | apply IsS74.set_1 | apply IsS74.set_2 | apply IsS74.set_3) | exact HI0.out)); (case side2 => repeat (first | (with_reducible first | exact HB.out | apply below_alloc | apply pw_below_drewN | apply below_drew1 | refine below_set ?_ (IsS74.ge HI0.out)) | exact HB.out)); rintro e w8 ⟨rfl, hi, hb, hk⟩; have n0_ := Aside0.mk (KeepBut.trans (by repeat (first | (with_reducible first | exact HK.out | apply KeepBut.set_ | apply keep_drewN | apply keep_drew | apply keep_alloc) | exact HK.out)) hk (.inl rfl)); have n1_ := Aside0.mk (hb); have n2_ := Aside0.mk (hi); clear HK; clear HB; clear HI0; have HK := n0_; have HB := n1_; have HI0 := n2_; clear n0_ n1_ n2_; (try clear hb); (try clear hb2); (try clear hk); (try clear hi))))
      go_ret
      exact ⟨by first | rfl | (simp [errW_none, errW_some] <;> rfl) | (simp [*, errW_none, errW_some] <;> rfl), by repeat (first | (with_reducible first | exact HI0.out | apply IsS74.alloc | apply IsS74.drewN | apply IsS74.drew | apply IsS74.set_1 | apply IsS74.set_2 | apply IsS74.set_3) | exact HI0.out), by repeat (first | (with_reducible first | exact HB.out | apply below_alloc | apply pw_below_drewN | apply below_drew1 | refine below_set ?_ (IsS74.ge HI0.out)) | exact HB.out), by repeat (first | (with_reducible first | exact HK.out | apply KeepBut.set_ | apply keep_drewN | apply keep_drew | apply keep_alloc) | exact HK.out)⟩
    · rw [if_neg c5] at H
      have c5b0 : decide ((s0_0.length : Int) ≤ s0_1) = false := decide_eq_false c5
      clear c5
      by_cases c9 : 0 ≤ s0_1
      · rw [if_pos c9] at H
        have c9b0 : decide (0 ≤ s0_1) = true := decide_eq_true c9
        clear c9
        by_cases c10 : s0_1 < (s0_0.length : Int)
        · rw [if_pos c10] at H
          have c10b0 : decide (s0_1 < (s0_0.length : Int)) = true := decide_eq_true c10
          clear c10
          by_cases c11 : ((rd_T28 s0_0 s0_1).f0) = a1
          · rw [if_pos c11] at H
            have c11b0 : (((rd_T28 s0_0 s0_1).f0) == a1) = true := beq_iff_eq.mpr c11
            have c11b1 : (((rd_T28 s0_0 s0_1).f0) != a1) = false := bne_eq_false_iff_eq.mpr c11
            clear c11
            obtain ⟨ji12, hji12⟩ : ∃ j_ : Int, (wrap64 ((wrap64 (s0_1 + 1)) - 1)) = j_ := ⟨_, rfl⟩
            replace H : (if 0 ≤ (ji12) then (if (ji12) < (s0_0.length : Int) then (some ((rd_T28 s0_0 (ji12)).f1, wrap64 (s0_1 + 1), s0_2, s0_3)) else (none)) else (none)) = some (r1, r2, r3, r4) := by first | (rw [hji12] at H; exact H) | (simp only [hji12] at H ⊢; exact H)
            have hji12w : (IntKind.i64.wrap ((wrap64 (s0_1 + 1)) - 1)) = ji12 := (i64_w _).trans hji12
            by_cases c13 : 0 ≤ (ji12)
            · rw [if_pos c13] at H
              have c13b0 : decide (0 ≤ (ji12)) = true := decide_eq_true c13
              clear c13
              by_cases c14 : (ji12) < (s0_0.length : Int)
              · rw [if_pos c14] at H
                have c14b0 : decide ((ji12) < (s0_0.length : Int)) = true := decide_eq_true c14
                clear c14
                simp only [Option.some.injEq, Prod.mk.injEq] at H
                obtain ⟨rfl, rfl, rfl, rfl⟩ := H
                obtain ⟨ASz15_0, cSz15_0, HGz15, hgz15, HSz15_0⟩ := HI0.out
                have hcz15_0 := cellS74_0 HGz15
                have hcz15_1 := cellS74_1 HGz15
                have hcz15_2 := cellS74_2 HGz15
                have hcz15_3 := cellS74_3 HGz15
                have hfz15_1 := blk_frozen HGz15 1
                have hfz15_2 := blk_frozen HGz15 2
                have hfz15_3 := blk_frozen HGz15 3
                clear HGz15 hgz15
                have p133 : 0 ≤ (s0_1 : Int) := of_decide_eq_true (by first | (with_reducible assumption) | assumption)
                have q133 : s0_1 < (s0_0.length : Int) := of_decide_eq_true (by first | (with_reducible assumption) | assumption)
                obtain ⟨ad133, e133, hx133_0, hx133_1, hx133_2⟩ := at_T28 HSz15_0 s0_1 p133 q133
                cases e133
                replace hx133_0 := pw_cell_below HB.out hx133_0
                replace hx133_1 := pw_cell_below HB.out hx133_1
                replace hx133_2 := pw_cell_below HB.out hx133_2
                replace p133 := eq_true p133
                replace q133 := eq_true q133
                have p134 : 0 ≤ ((ji12) : Int) := of_decide_eq_true (by first | (with_reducible assumption) | assumption)
                have q134 : (ji12) < (s0_0.length : Int) := of_decide_eq_true (by first | (with_reducible assumption) | assumption)
                obtain ⟨ad134, e134, hx134_0, hx134_1, hx134_2⟩ := at_T28 HSz15_0 (ji12) p134 q134
                obtain rfl : ad133 = ad134 := (by injection e134)
                have hn134_0 : ad133.block ≠ g := Nat.ne_of_lt (Nat.lt_of_lt_of_le (by have := World.block_lt_of_cell? _ _ hx134_0; first | rwa [add_block] at this | exact this) (IsS74.ge HI0.out))
                replace hx134_0 := pw_cell_below HB.out hx134_0
                replace hx134_1 := pw_cell_below HB.out hx134_1
                replace hx134_2 := pw_cell_below HB.out hx134_2
                replace hx134_0 := (cell_far (p := ⟨g, 1, none⟩) (by first | (rw [add_block]; exact hn134_0) | (show (Addr.add _ _).block ≠ _; rw [add_block]; exact hn134_0) | exact hn134_0) (.int .i64 (wrap64 (s0_1 + 1)))).trans hx134_0
                replace hx134_1 := (cell_far (p := ⟨g, 1, none⟩) (by first | (rw [add_block]; exact hn134_0) | (show (Addr.add _ _).block ≠ _; rw [add_block]; exact hn134_0) | exact hn134_0) (.int .i64 (wrap64 (s0_1 + 1)))).trans hx134_1
                replace hx134_2 := (cell_far (p := ⟨g, 1, none⟩) (by first | (rw [add_block]; exact hn134_0) | (show (Addr.add _ _).block ≠ _; rw [add_block]; exact hn134_0) | exact hn134_0) (.int .i64 (wrap64 (s0_1 + 1)))).trans hx134_2
                (try have hy134_0 := fun (n_ : Nat) => (show (((w.drewN n_).setCell ⟨g, 1, none⟩ (.int .i64 (wrap64 (s0_1 + 1))))).cell? _ = some _ from hx134_0))
                (try have hy134_1 := fun (n_ : Nat) => (show (((w.drewN n_).setCell ⟨g, 1, none⟩ (.int .i64 (wrap64 (s0_1 + 1))))).cell? _ = some _ from hx134_1))
                (try have hy134_2 := fun (n_ : Nat) => (show (((w.drewN n_).setCell ⟨g, 1, none⟩ (.int .i64 (wrap64 (s0_1 + 1))))).cell? _ = some _ from hx134_2))
                clear hn134_0
                replace p134 := eq_true p134
                replace q134 := eq_true q134
                go_enter Try.func61, Try.ntmps61
                go_wp2
                repeat (go_quiet (fail); try go_wp2)
                go_ret
                exact ⟨by first | rfl | (simp [errW_none, errW_some] <;> rfl) | (simp only [← hji12]; first | rfl | (simp [errW_none, errW_some] <;> rfl)) | (simp [*, errW_none, errW_some] <;> rfl), by repeat (first | (with_reducible first | exact HI0.out | apply IsS74.alloc | apply IsS74.drewN | apply IsS74.drew | apply IsS74.set_1 | apply IsS74.set_2 | apply IsS74.set_3) | exact HI0.out), by repeat (first | (with_reducible first | exact HB.out | apply below_alloc | apply pw_below_drewN | apply below_drew1 | refine below_set ?_ (IsS74.ge HI0.out)) | exact HB.out), by repeat (first | (with_reducible first | exact HK.out | apply KeepBut.set_ | apply keep_drewN | apply keep_drew | apply keep_alloc) | exact HK.out)⟩
              · rw [if_neg c14] at H
                exact absurd H (by simp)
            · rw [if_neg c13] at H
              exact absurd H (by simp)
          · rw [if_neg c11] at H
            have c11b0 : (((rd_T28 s0_0 s0_1).f0) == a1) = false := beq_eq_false_iff_ne.mpr c11
            have c11b1 : (((rd_T28 s0_0 s0_1).f0) != a1) = true := bne_iff_ne.mpr c11
            replace H := Option.bind_eq_some_iff.mp H
            obtain ⟨⟨t135, t136, t137⟩, A160, H⟩ := H
            replace H : (some ((⟨#[]⟩ : ByteArray), t135, t136, t137)) = some (r1, r2, r3, r4) := H
            have A16 := Aside0.mk A160
            clear A160
            simp only [Option.some.injEq, Prod.mk.injEq] at H
            obtain ⟨rfl, rfl, rfl, rfl⟩ := H
            obtain ⟨ASz17_0, cSz17_0, HGz17, hgz17, HSz17_0⟩ := HI0.out
            have hcz17_0 := cellS74_0 HGz17
            have hcz17_1 := cellS74_1 HGz17
            have hcz17_2 := cellS74_2 HGz17
            have hcz17_3 := cellS74_3 HGz17
            have hfz17_1 := blk_frozen HGz17 1
            have hfz17_2 := blk_frozen HGz17 2
            have hfz17_3 := blk_frozen HGz17 3
            clear HGz17 hgz17
            have p133 : 0 ≤ (s0_1 : Int) := of_decide_eq_true (by first | (with_reducible assumption) | assumption)
            have q133 : s0_1 < (s0_0.length : Int) := of_decide_eq_true (by first | (with_reducible assumption) | assumption)
            obtain ⟨ad133, e133, hx133_0, hx133_1, hx133_2⟩ := at_T28 HSz17_0 s0_1 p133 q133
            cases e133
            replace hx133_0 := pw_cell_below HB.out hx133_0
            replace hx133_1 := pw_cell_below HB.out hx133_1
            replace hx133_2 := pw_cell_below HB.out hx133_2
            replace p133 := eq_true p133
            replace q133 := eq_true q133
            go_enter Try.func61, Try.ntmps61
            go_wp2_with (first | (go_at_call 55; (with_reducible refine (say_parser_fail.calls g s0_0 s0_1 s0_2 s0_3 t135 t136 t137 w0 _ ?side1 ?side2 A16.out).mono ?_); (case side1 => repeat (first | (with_reducible first | exact HI0.out | apply IsS74.alloc | apply IsS74.drewN | apply IsS74.drew | apply IsS74.set_1 | apply IsS74.set_2 | apply IsS74.set_3) | exact HI0.out)); (case side2 => repeat (first | (with_reducible first | exact HB.out | apply below_alloc | apply pw_below_drewN | apply below_drew1 | refine below_set ?_ (IsS74.ge HI0.out)) | exact HB.out)); rintro e w18 ⟨rfl, hi, hb, hk⟩; have n0_ := Aside0.mk (KeepBut.trans (by repeat (first | (with_reducible first | exact HK.out | apply KeepBut.set_ | apply keep_drewN | apply keep_drew | apply keep_alloc) | exact HK.out)) hk (.inl rfl)); have n1_ := Aside0.mk (hb); have n2_ := Aside0.mk (hi); clear HK; clear HB; clear HI0; have HK := n0_; have HB := n1_; have HI0 := n2_; clear n0_ n1_ n2_; (try clear hb); (try clear hb2); (try clear hk); (try clear hi)))
            repeat (go_quiet (first | (go_at_call 55; (with_reducible refine (say_parser_fail.calls g s0_0 s0_1 s0_2 s0_3 t135 t136 t137 w0 _ ?side1 ?side2 A16.out).mono ?_); (case side1 => repeat (first | (with_reducible first | exact HI0.out | apply IsS74.alloc | apply IsS74.drewN | apply IsS74.drew | apply IsS74.set_1 | apply IsS74.set_2 | apply IsS74.set_3) | exact HI0.out)); (case side2 => repeat (first | (with_reducible first | exact HB.out | apply below_alloc | apply pw_below_drewN | apply below_drew1 | refine below_set ?_ (IsS74.ge HI0.out)) | exact HB.out)); rintro e w18 ⟨rfl, hi, hb, hk⟩; have n0_ := Aside0.mk (KeepBut.trans (by repeat (first | (with_reducible first | exact HK.out | apply KeepBut.set_ | apply keep_drewN | apply keep_drew | apply keep_alloc) | exact HK.out)) hk (.inl rfl)); have n1_ := Aside0.mk (hb); have n2_ := Aside0.mk (hi); clear HK; clear HB; clear HI0; have HK := n0_; have HB := n1_; have HI0 := n2_; clear n0_ n1_ n2_; (try clear hb); (try clear hb2); (try clear hk); (try clear hi))); try go_wp2_with (first | (go_at_call 55; (with_reducible refine (say_parser_fail.calls g s0_0 s0_1 s0_2 s0_3 t135 t136 t137 w0 _ ?side1 ?side2 A16.out).mono ?_); (case side1 => repeat (first | (with_reducible first | exact HI0.out | apply IsS74.alloc | apply IsS74.drewN | apply IsS74.drew | apply IsS74.set_1 | apply IsS74.set_2 | apply IsS74.set_3) | exact HI0.out)); (case side2 => repeat (first | (with_reducible first | exact HB.out | apply below_alloc | apply pw_below_drewN | apply below_drew1 | refine below_set ?_ (IsS74.ge HI0.out)) | exact HB.out)); rintro e w18 ⟨rfl, hi, hb, hk⟩; have n0_ := Aside0.mk (KeepBut.trans (by repeat (first | (with_reducible first | exact HK.out | apply KeepBut.set_ | apply keep_drewN | apply keep_drew | apply keep_alloc) | exact HK.out)) hk (.inl rfl)); have n1_ := Aside0.mk (hb); have n2_ := Aside0.mk (hi); clear HK; clear HB; clear HI0; have HK := n0_; have HB := n1_; have HI0 := n2_; clear n0_ n1_ n2_; (try clear hb); (try clear hb2); (try clear hk); (try clear hi))))
            go_ret
            exact ⟨by first | rfl | (simp [errW_none, errW_some] <;> rfl) | (simp [*, errW_none, errW_some] <;> rfl), by repeat (first | (with_reducible first | exact HI0.out | apply IsS74.alloc | apply IsS74.drewN | apply IsS74.drew | apply IsS74.set_1 | apply IsS74.set_2 | apply IsS74.set_3) | exact HI0.out), by repeat (first | (with_reducible first | exact HB.out | apply below_alloc | apply pw_below_drewN | apply below_drew1 | refine below_set ?_ (IsS74.ge HI0.out)) | exact HB.out), by repeat (first | (with_reducible first | exact HK.out | apply KeepBut.set_ | apply keep_drewN | apply keep_drew | apply keep_alloc) | exact HK.out)⟩
        · rw [if_neg c10] at H
          exact absurd H (by simp)
      · rw [if_neg c9] at H
        exact absurd H (by simp)

end Go.Proofs.Ytokkjnfdfbpphaa.A
namespace Go.Proofs.Ytokkjnfdfbpphaa.A
open Go.RowKit Go.Proofs.YtokkjnfdfbpphaaW.PrintWords Go.Proofs.YtokkjnfdfbpphaaW.PrintLast Go.Proofs.YtokkjnfdfbpphaaW.PrintMore
attribute [local go_sem] max2_int min2_int max_two min_two max_three min_three max_four min_four   -- for this text's walks alone
set_option linter.unusedVariables false
set_option linter.unusedSimpArgs false

/-! ### say_digits: function 69 -/
def say_digits.f (a0 : ByteArray) : Option (Int × Bool) := match digitsOf a0.data.toList with | some n => some ((n : Int), true) | none => some (0, false)
def digN (x : Option Nat) : Int := match x with | some n => (n : Int) | none => 0
def digB (x : Option Nat) : Bool := match x with | some _ => true | none => false
def DigBad (s : ByteArray) : Prop := s.size = 0 ∨ (∃ h : 1 < s.size, s[0] = 48) ∨ 20 < s.size
set_option maxRecDepth 100000 in
set_option maxHeartbeats 2000000 in
theorem digits_bad (s : ByteArray) (w : World) (h : DigBad s) :
    Calls Try.prog 69 #[.string s] w fun e w' => e = .returned (.tuple #[.int .u64 0, .bool false]) ∧ Below w.heap.size w w' := by
  unfold DigBad at h
  have hsz : s.toList.length = s.size := by rw [Lib.toList_data]; simp
  by_cases h0 : s.size = 0
  · have hl : s.toList = [] := List.eq_nil_of_length_eq_zero (by omega)
    clear h
    go_enter Try.func69, Try.ntmps69
    go_wp2
    refine bodyPost_ret (results_tmp2 rfl _ _ _) rfl ⟨rfl, Below.refl _ _⟩
  · have hl : ¬ s.toList = [] := fun e => h0 (by rw [← hsz, e]; rfl)
    have hz : 0 < s.size := by omega
    by_cases h1 : 1 < s.size
    · have d1 : decide ((1 : Int) < (s.size : Int)) = true := by simp; omega
      by_cases h48 : s[0] = 48
      · have e48 : ((s[0].toNat : Int) == 48) = true := u8_eq' s[0] 48 h48
        clear h hsz
        go_enter Try.func69, Try.ntmps69
        go_wp2
        refine bodyPost_ret (results_tmp2 rfl _ _ _) rfl ⟨rfl, Below.refl _ _⟩
      · have e48 : ((s[0].toNat : Int) == 48) = false := u8_ne s[0] 48 h48
        have h20 : 20 < s.size := by
          rcases h with h | ⟨_, h⟩ | h
          · omega
          · exact absurd h h48
          · exact h
        have d2 : decide ((20 : Int) < (s.size : Int)) = true := by simp; omega
        clear h hsz
        go_enter Try.func69, Try.ntmps69
        go_wp2
        refine bodyPost_ret (results_tmp2 rfl _ _ _) rfl ⟨rfl, Below.refl _ _⟩
    · exfalso
      rcases h with h | ⟨h, _⟩ | h <;> omega
set_option maxRecDepth 100000 in
set_option maxHeartbeats 2000000 in
theorem digits_good (s : ByteArray) (w : World) (h : ¬ DigBad s) :
    Calls Try.prog 69 #[.string s] w fun e w' => e = .returned (.tuple #[.int .u64 (digN (digFold 0 s.data.toList)), .bool (digB (digFold 0 s.data.toList))]) ∧ Below w.heap.size w w' := by
  unfold DigBad at h
  have hsz : s.toList.length = s.size := by rw [Lib.toList_data]; simp
  have h0 : ¬ s.size = 0 := fun e => h (.inl e)
  have h20 : s.size ≤ 20 := by
    rcases Nat.lt_or_ge 20 s.size with h' | h'
    · exact absurd (.inr (.inr h')) h
    · exact h'
  have hl : ¬ s.toList = [] := fun e => h0 (by rw [← hsz, e]; rfl)
  have hle : s.toList.isEmpty = false := by simpa using hl
  have hz : 0 < s.size := by omega
  have d2 : decide ((20 : Int) < (s.size : Int)) = false := by simp; omega
  have hcv := Lib.run_convert_string_bytes (P := Try.prog) w 9 55 5 s Try.underlying9 Try.underlying55 Try.underlying5
  have HX := Aside0.mk (Lib.bytesWorld_cell w 5 s)
  have HN := Aside0.mk (Lib.bytesWorld_size w 5 s)
  have HO := Aside0.mk (Lib.bytesWorld_at_old w 5 s)
  have HWW : Below w.heap.size w (Lib.bytesWorld w 5 s) := ⟨by simp [Lib.bytesWorld, World.freeze]; rfl, by simp [Lib.bytesWorld, World.freeze], by simp [Lib.bytesWorld, World.freeze]; rfl, by rw [HN.out]; omega, HO.out⟩
  have HW := Aside0.mk HWW
  clear HWW
  generalize Lib.bytesWorld w 5 s = w1 at *
  generalize grownCap w s.size 0 5 = cap at *
  by_cases h1 : 1 < s.size
  · have d1 : decide ((1 : Int) < (s.size : Int)) = true := by simp; omega
    have e48 : ((s[0].toNat : Int) == 48) = false := u8_ne s[0] 48 (fun e => h (.inr (.inl ⟨h1, e⟩)))
    clear h hsz
    go_enter Try.func69, Try.ntmps69
    go_wp2
    go_loop [4, 28] (fun n i => ∃ (k N : Nat), k ≤ s.size ∧ i = .int .i64 (k : Int) ∧ n = .int .u64 (N : Int) ∧ Aside0 (N < 18446744073709551616) ∧ Aside0 (digFold 0 s.data.toList = digFold N (s.data.toList.drop k)))
      (fun _ i => s.size - (intOf i).toNat)
    case atStart => exact ⟨0, 0, by omega, rfl, rfl, ⟨by omega⟩, ⟨by simp⟩⟩
    case round =>
      obtain ⟨k, N, hk, rfl, rfl, hN, hr⟩ := hrel
      by_cases hlt : k < s.size
      · have hcell : w1.cell? ⟨w.heap.size, k, none⟩ = some (.int .u8 (s[k].toNat : Int)) := by
          have := HX.out k hlt
          rwa [show s.data.toList.getD k 0 = s[k] from by simp [List.getD, hlt]; rfl] at this
        have hst := Aside0.mk (drop_cons s k hlt)
        have hc := s[k].toNat_lt
        clear hcv
        go_wp2_with fail
        · have hbig : (18446744073709551615 - ((s[k].toNat : Int) - 48) % 256) / 10 < (N : Int) := by assumption
          have hf := digFold_big (s.data.toList.drop (k + 1)) hbig
          refine bodyPost_ret (results_tmp2 rfl _ _ _) rfl ⟨?_, HW.out⟩
          rw [hr.out, hst.out, hf]
          rfl
        · have hsm : (N : Int) ≤ (18446744073709551615 - ((s[k].toNat : Int) - 48) % 256) / 10 := by assumption
          obtain ⟨f1, f2, f3⟩ := digFold_next (s.data.toList.drop (k + 1)) hsm
          exact ⟨⟨k + 1, _, by omega, by go_num, congrArg (Value.int .u64) f3, ⟨f2⟩, ⟨by rw [hr.out, hst.out, f1]⟩⟩, by simp [intOf]; omega⟩
      · have hkt : k = s.size := by omega
        have hst : Aside0 (s.data.toList.drop k = []) := ⟨List.drop_of_length_le (by simp; omega)⟩
        clear hcv
        go_wp2_with fail
        refine bodyPost_ret (results_tmp2 rfl _ _ _) rfl ⟨?_, HW.out⟩
        rw [hr.out, hst.out]
        rfl
  · have d1 : decide ((1 : Int) < (s.size : Int)) = false := by simp; omega
    clear h hsz
    go_enter Try.func69, Try.ntmps69
    go_wp2
    go_loop [4, 28] (fun n i => ∃ (k N : Nat), k ≤ s.size ∧ i = .int .i64 (k : Int) ∧ n = .int .u64 (N : Int) ∧ Aside0 (N < 18446744073709551616) ∧ Aside0 (digFold 0 s.data.toList = digFold N (s.data.toList.drop k)))
      (fun _ i => s.size - (intOf i).toNat)
    case atStart => exact ⟨0, 0, by omega, rfl, rfl, ⟨by omega⟩, ⟨by simp⟩⟩
    case round =>
      obtain ⟨k, N, hk, rfl, rfl, hN, hr⟩ := hrel
      by_cases hlt : k < s.size
      · have hcell : w1.cell? ⟨w.heap.size, k, none⟩ = some (.int .u8 (s[k].toNat : Int)) := by
          have := HX.out k hlt
          rwa [show s.data.toList.getD k 0 = s[k] from by simp [List.getD, hlt]; rfl] at this
        have hst := Aside0.mk (drop_cons s k hlt)
        have hc := s[k].toNat_lt
        clear hcv
        go_wp2_with fail
        · have hbig : (18446744073709551615 - ((s[k].toNat : Int) - 48) % 256) / 10 < (N : Int) := by assumption
          have hf := digFold_big (s.data.toList.drop (k + 1)) hbig
          refine bodyPost_ret (results_tmp2 rfl _ _ _) rfl ⟨?_, HW.out⟩
          rw [hr.out, hst.out, hf]
          rfl
        · have hsm : (N : Int) ≤ (18446744073709551615 - ((s[k].toNat : Int) - 48) % 256) / 10 := by assumption
          obtain ⟨f1, f2, f3⟩ := digFold_next (s.data.toList.drop (k + 1)) hsm
          exact ⟨⟨k + 1, _, by omega, by go_num, congrArg (Value.int .u64) f3, ⟨f2⟩, ⟨by rw [hr.out, hst.out, f1]⟩⟩, by simp [intOf]; omega⟩
      · have hkt : k = s.size := by omega
        have hst : Aside0 (s.data.toList.drop k = []) := ⟨List.drop_of_length_le (by simp; omega)⟩
        clear hcv
        go_wp2_with fail
        refine bodyPost_ret (results_tmp2 rfl _ _ _) rfl ⟨?_, HW.out⟩
        rw [hr.out, hst.out]
        rfl
theorem digitsOf_bad (s : ByteArray) (h : DigBad s) : digitsOf s.data.toList = none := by
  unfold DigBad at h
  by_cases h0 : s.size = 0
  · have : s.data.toList = [] := List.eq_nil_of_length_eq_zero (by simpa using h0)
    rw [this]; rfl
  · have e := drop_cons s 0 (by omega)
    rw [List.drop_zero] at e
    have hl : (s.data.toList.drop 1).length = s.size - 1 := by simp
    rw [e]; dsimp only [digitsOf]
    rw [if_pos]
    rcases h with h | ⟨h, h'⟩ | h
    · exact absurd h h0
    · left; exact ⟨by simp only [Nat.zero_add]; omega, h'⟩
    · right; simp only [Nat.zero_add]; omega
theorem digitsOf_good (s : ByteArray) (h : ¬ DigBad s) : digitsOf s.data.toList = digFold 0 s.data.toList := by
  unfold DigBad at h
  have h0 : ¬ s.size = 0 := fun e => h (.inl e)
  have e := drop_cons s 0 (by omega)
  rw [List.drop_zero] at e
  have hl : (s.data.toList.drop 1).length = s.size - 1 := by simp
  rw [e]; dsimp only [digitsOf]
  rw [if_neg]
  rintro (⟨h1, h2⟩ | h1)
  · exact h (.inr (.inl ⟨by simp only [Nat.zero_add] at h1; omega, h2⟩))
  · exact h (.inr (.inr (by simp only [Nat.zero_add] at h1; omega)))
theorem say_digits.calls (a0 : ByteArray) (r1 : Int) (r2 : Bool) (w : World) (h : say_digits.f a0 = some (r1, r2)) :
    Calls Try.prog 69 #[.string a0] w fun e w' => e = .returned (.tuple #[.int .u64 r1, .bool r2]) ∧ Below w.heap.size w w' := by
  by_cases hb : DigBad a0
  · unfold say_digits.f at h
    rw [digitsOf_bad a0 hb] at h
    simp only [Option.some.injEq, Prod.mk.injEq] at h
    obtain ⟨rfl, rfl⟩ := h
    exact digits_bad a0 w hb
  · unfold say_digits.f at h
    rw [digitsOf_good a0 hb] at h
    refine (digits_good a0 w hb).mono ?_
    rintro e w' ⟨rfl, hw⟩
    cases hf : digFold 0 a0.data.toList with
    | none =>
      rw [hf] at h
      simp only [Option.some.injEq, Prod.mk.injEq] at h
      obtain ⟨rfl, rfl⟩ := h
      exact ⟨rfl, hw⟩
    | some n =>
      rw [hf] at h
      simp only [Option.some.injEq, Prod.mk.injEq] at h
      obtain ⟨rfl, rfl⟩ := h
      exact ⟨rfl, hw⟩

end Go.Proofs.Ytokkjnfdfbpphaa.A
namespace Go.Proofs.Ytokkjnfdfbpphaa.A
open Go.RowKit Go.Proofs.YtokkjnfdfbpphaaW.PrintWords Go.Proofs.YtokkjnfdfbpphaaW.PrintLast Go.Proofs.YtokkjnfdfbpphaaW.PrintMore
attribute [local go_sem] max2_int min2_int max_two min_two max_three min_three max_four min_four   -- for this text's walks alone
set_option linter.unusedVariables false
set_option linter.unusedSimpArgs false

/-! ### say_parser_number: function 56 -/
def say_parser_number.f (s0_0 : List (S28)) (s0_1 : Int) (s0_2 : Int) (s0_3 : Int) : Option (Int × Int × Int × Int) := (say_parser_take.f s0_0 s0_1 s0_2 s0_3 1).bind fun t =>
  if t.2.2.2 ≥ 0 then some (0, t.2.1, t.2.2.1, t.2.2.2)
  else if 0 < t.1.size then
    match numVal t.1.data.toList with
    | some n => some (n, t.2.1, t.2.2.1, t.2.2.2)
    | none => (say_parser_fail.f s0_0 s0_1 t.2.2.1 t.2.2.2).bind fun q => some (0, q.1, q.2.1, q.2.2)
  else none
set_option maxRecDepth 100000 in
set_option maxHeartbeats 4000000 in
theorem say_parser_number.calls (g : Nat) (s0_0 : List (S28)) (s0_1 : Int) (s0_2 : Int) (s0_3 : Int) (r1 : Int) (r2 : Int) (r3 : Int) (r4 : Int) (w0 w : World) (hI : IsS74 w0 w g s0_0 s0_1 s0_2 s0_3) (hB : Below w0.heap.size w0 w) (h : say_parser_number.f s0_0 s0_1 s0_2 s0_3 = some (r1, r2, r3, r4)) :
    Calls Try.prog 56 #[.pointer (some ⟨g, 0, none⟩)] w fun e w' => e = .returned (.int .i64 r1) ∧ IsS74 w0 w' g s0_0 r2 r3 r4 ∧ Below w0.heap.size w0 w' ∧ KeepBut w w' g none := by
  unfold say_parser_number.f at h
  obtain ⟨⟨t1, t2, t3, t4⟩, ht, h⟩ := Option.bind_eq_some_iff.mp h
  dsimp only at h
  have HT := Aside0.mk ht
  have HI := Aside0.mk hI
  have HB := Aside0.mk hB
  obtain ⟨A0, c0, hb, hg, hC⟩ := hI
  have hc1 := cellS74_1 hb
  clear ht hB hb hg hC
  by_cases h4 : t4 ≥ 0
  · rw [if_pos h4] at h
    simp only [Option.some.injEq, Prod.mk.injEq] at h
    obtain ⟨rfl, rfl, rfl, rfl⟩ := h
    have hd4 : decide (0 ≤ t4) = true := decide_eq_true h4
    go_enter Try.func56, Try.ntmps56
    go_wp2_with fail
    refine (say_parser_take.calls g s0_0 s0_1 s0_2 s0_3 1 _ _ _ _ w0 _ HI.out HB.out HT.out).mono ?_
    rintro e w2 ⟨rfl, hi, hb2, hk⟩
    have hc3 := cellS74_3 hi.choose_spec.choose_spec.1
    go_wp2_with fail
    go_ret
    exact ⟨rfl, hi, hb2, hk⟩
  · rw [if_neg h4] at h
    have hd4 : decide (0 ≤ t4) = false := decide_eq_false h4
    by_cases hz : 0 < t1.size
    · rw [if_pos hz] at h
      have hh := head_get t1 hz
      by_cases h45 : t1[0] = 45
      · have e45 : ((t1[0].toNat : Int) == 45) = true := u8_eq' t1[0] 45 h45
        have h1s : (1 : Int) ≤ (t1.size : Int) := by omega
        have hnv : numVal t1.data.toList = (digitsOf (t1.extract 1 t1.size).data.toList).bind numNeg := by
          unfold numVal; rw [if_pos (by rw [hh, h45]), ext_tail]
        rw [hnv] at h
        cases hd : digitsOf (t1.extract 1 t1.size).data.toList with
        | none =>
          rw [hd] at h
          obtain ⟨⟨q1, q2, q3⟩, hq, h⟩ := Option.bind_eq_some_iff.mp h
          simp only [Option.some.injEq, Prod.mk.injEq] at h
          obtain ⟨rfl, rfl, rfl, rfl⟩ := h
          have HQ := Aside0.mk hq
          have HD : Aside0 (say_digits.f (t1.extract 1 t1.size) = some (0, false)) := ⟨by unfold say_digits.f; rw [hd]⟩
          clear hq hd hnv hh h45 h4
          go_enter Try.func56, Try.ntmps56
          go_wp2_with fail
          refine (say_parser_take.calls g s0_0 s0_1 s0_2 s0_3 1 _ _ _ _ w0 _ HI.out HB.out HT.out).mono ?_
          rintro e w2 ⟨rfl, hi, hb2, hk⟩
          have hc3 := cellS74_3 hi.choose_spec.choose_spec.1
          have HI2 := Aside0.mk hi
          have HB2 := Aside0.mk hb2
          have HK2 := Aside0.mk hk
          clear hi hb2 hk
          go_wp2_with fail
          refine (say_digits.calls (t1.extract 1 t1.size) _ _ _ HD.out).mono ?_
          rintro e w3 ⟨rfl, hb3⟩
          have HI3 := Aside0.mk (IsS74.below HI2.out hb3)
          have HB3 := Aside0.mk (below_weaken HB2.out HB2.out.size hb3)
          have HK3 := Aside0.mk (HK2.out.trans (KeepBut.of_below hb3 g none) (.inl rfl))
          have hf1 := blk_frozen HI3.out.choose_spec.choose_spec.1 1
          have hd1 := cellS74_1 HI3.out.choose_spec.choose_spec.1
          clear hb3 hc3
          go_wp2_with fail
          · refine (say_parser_fail.calls g s0_0 s0_1 t3 t4 _ _ _ w0 _ (IsS74.set_1 HI3.out _) (below_set HB3.out (IsS74.ge HI3.out)) HQ.out).mono ?_
            rintro e w4 ⟨rfl, hi, hb4, hk⟩
            go_wp2_with fail
            go_ret
            exact ⟨rfl, hi, hb4, (HK3.out.set_ 1 _).trans hk (.inl rfl)⟩
        | some n =>
          rw [hd] at h
          obtain ⟨N, hN⟩ : ∃ N : Int, N = (n : Int) := ⟨_, rfl⟩
          have HD : Aside0 (say_digits.f (t1.extract 1 t1.size) = some (N, true)) := ⟨by unfold say_digits.f; rw [hd, hN]⟩
          have HX := Aside0.mk h
          have HN := Aside0.mk hN
          have hN0 : 0 ≤ N := by omega
          clear hN
          have HPos : ∀ h : 0 < N ∧ N ≤ 9223372036854775808, r1 = -N ∧ r2 = t2 ∧ r3 = t3 ∧ r4 = t4 := fun h => by
            have hx := HX.out
            rw [show (some n).bind numNeg = some (-N) from by show numNeg n = _; unfold numNeg; rw [if_neg (by have := HN.out; omega), HN.out]] at hx
            simp only [Option.some.injEq, Prod.mk.injEq] at hx
            exact ⟨hx.1.symm, hx.2.1.symm, hx.2.2.1.symm, hx.2.2.2.symm⟩
          have HNeg : ∀ h : N = 0 ∨ 9223372036854775808 < N, r1 = 0 ∧ say_parser_fail.f s0_0 s0_1 t3 t4 = some (r2, r3, r4) := fun h => by
            have hx := HX.out
            rw [show (some n).bind numNeg = none from by show numNeg n = _; unfold numNeg; rw [if_pos (by have := HN.out; omega)]] at hx
            obtain ⟨⟨q1, q2, q3⟩, hq, h⟩ := Option.bind_eq_some_iff.mp hx
            simp only [Option.some.injEq, Prod.mk.injEq] at h
            obtain ⟨rfl, rfl, rfl, rfl⟩ := h
            exact ⟨rfl, hq⟩
          have HP := Aside0.mk HPos
          have HM := Aside0.mk HNeg
          clear hd hnv hh h45 h4 h HPos HNeg
          go_enter Try.func56, Try.ntmps56
          go_wp2_with fail
          refine (say_parser_take.calls g s0_0 s0_1 s0_2 s0_3 1 _ _ _ _ w0 _ HI.out HB.out HT.out).mono ?_
          rintro e w2 ⟨rfl, hi, hb2, hk⟩
          have hc3 := cellS74_3 hi.choose_spec.choose_spec.1
          have HI2 := Aside0.mk hi
          have HB2 := Aside0.mk hb2
          have HK2 := Aside0.mk hk
          clear hi hb2 hk
          go_wp2_with fail
          refine (say_digits.calls (t1.extract 1 t1.size) _ _ _ HD.out).mono ?_
          rintro e w3 ⟨rfl, hb3⟩
          have HI3 := Aside0.mk (IsS74.below HI2.out hb3)
          have HB3 := Aside0.mk (below_weaken HB2.out HB2.out.size hb3)
          have HK3 := Aside0.mk (HK2.out.trans (KeepBut.of_below hb3 g none) (.inl rfl))
          have hf1 := blk_frozen HI3.out.choose_spec.choose_spec.1 1
          have hd1 := cellS74_1 HI3.out.choose_spec.choose_spec.1
          clear hb3 hc3
          go_wp2_with fail
          rotate_right 1
          · have hlt : 0 < N ∧ N ≤ 9223372036854775808 := by
              have h1 : ¬ N = 0 := by assumption
              have h2 : (N == 0) = false ∧ N ≤ 9223372036854775808 := by assumption
              omega
            obtain ⟨rfl, rfl, rfl, rfl⟩ := HP.out hlt
            go_ret
            refine ⟨?_, HI3.out, HB3.out, HK3.out⟩
            have hv : wrap64 (IntKind.u64.wrap (-N)) = -N := by
              have hu : IntKind.u64.wrap (-N) = 18446744073709551616 - N := by
                show -N % 18446744073709551616 = _
                omega
              rw [hu]; unfold wrap64; omega
            rw [hv]
            rfl
          all_goals
            have hge : N = 0 ∨ 9223372036854775808 < N := by
              first
                | (left; assumption)
                | (have h2 : (N == 0) = true ∨ 9223372036854775808 < N := by assumption
                   rcases h2 with h2 | h2
                   · left; simpa using h2
                   · right; exact h2)
            obtain ⟨rfl, hq⟩ := HM.out hge
            have HQ := Aside0.mk hq
            clear hq hge
            refine (say_parser_fail.calls g s0_0 s0_1 t3 t4 _ _ _ w0 _ (IsS74.set_1 HI3.out _) (below_set HB3.out (IsS74.ge HI3.out)) HQ.out).mono ?_
            rintro e w4 ⟨rfl, hi, hb4, hk⟩
            go_wp2_with fail
            go_ret
            exact ⟨rfl, hi, hb4, (HK3.out.set_ 1 _).trans hk (.inl rfl)⟩
      · have e45 : ((t1[0].toNat : Int) == 45) = false := u8_ne t1[0] 45 h45
        have hnv : numVal t1.data.toList = (digitsOf t1.data.toList).bind numPos := by
          unfold numVal; rw [if_neg (by rw [hh]; simpa using h45)]
        rw [hnv] at h
        cases hd : digitsOf t1.data.toList with
        | none =>
          rw [hd] at h
          obtain ⟨⟨q1, q2, q3⟩, hq, h⟩ := Option.bind_eq_some_iff.mp h
          simp only [Option.some.injEq, Prod.mk.injEq] at h
          obtain ⟨rfl, rfl, rfl, rfl⟩ := h
          have HQ := Aside0.mk hq
          have HD : Aside0 (say_digits.f t1 = some (0, false)) := ⟨by unfold say_digits.f; rw [hd]⟩
          clear hq hd hnv hh h45 h4
          go_enter Try.func56, Try.ntmps56
          go_wp2_with fail
          refine (say_parser_take.calls g s0_0 s0_1 s0_2 s0_3 1 _ _ _ _ w0 _ HI.out HB.out HT.out).mono ?_
          rintro e w2 ⟨rfl, hi, hb2, hk⟩
          have hc3 := cellS74_3 hi.choose_spec.choose_spec.1
          have HI2 := Aside0.mk hi
          have HB2 := Aside0.mk hb2
          have HK2 := Aside0.mk hk
          clear hi hb2 hk
          go_wp2_with fail
          refine (say_digits.calls t1 _ _ _ HD.out).mono ?_
          rintro e w3 ⟨rfl, hb3⟩
          have HI3 := Aside0.mk (IsS74.below HI2.out hb3)
          have HB3 := Aside0.mk (below_weaken HB2.out HB2.out.size hb3)
          have HK3 := Aside0.mk (HK2.out.trans (KeepBut.of_below hb3 g none) (.inl rfl))
          have hf1 := blk_frozen HI3.out.choose_spec.choose_spec.1 1
          have hd1 := cellS74_1 HI3.out.choose_spec.choose_spec.1
          clear hb3 hc3
          go_wp2_with fail
          refine (say_parser_fail.calls g s0_0 s0_1 t3 t4 _ _ _ w0 _ (IsS74.set_1 HI3.out _) (below_set HB3.out (IsS74.ge HI3.out)) HQ.out).mono ?_
          rintro e w4 ⟨rfl, hi, hb4, hk⟩
          go_wp2_with fail
          go_ret
          exact ⟨rfl, hi, hb4, (HK3.out.set_ 1 _).trans hk (.inl rfl)⟩
        | some n =>
          rw [hd] at h
          obtain ⟨N, hN⟩ : ∃ N : Int, N = (n : Int) := ⟨_, rfl⟩
          have HD : Aside0 (say_digits.f t1 = some (N, true)) := ⟨by unfold say_digits.f; rw [hd, hN]⟩
          have HX := Aside0.mk h
          have HN := Aside0.mk hN
          have hN0 : 0 ≤ N := by omega
          clear hN
          clear hd hnv hh h45 h4 h
          go_enter Try.func56, Try.ntmps56
          go_wp2_with fail
          refine (say_parser_take.calls g s0_0 s0_1 s0_2 s0_3 1 _ _ _ _ w0 _ HI.out HB.out HT.out).mono ?_
          rintro e w2 ⟨rfl, hi, hb2, hk⟩
          have hc3 := cellS74_3 hi.choose_spec.choose_spec.1
          have HI2 := Aside0.mk hi
          have HB2 := Aside0.mk hb2
          have HK2 := Aside0.mk hk
          clear hi hb2 hk
          go_wp2_with fail
          refine (say_digits.calls t1 _ _ _ HD.out).mono ?_
          rintro e w3 ⟨rfl, hb3⟩
          have HI3 := Aside0.mk (IsS74.below HI2.out hb3)
          have HB3 := Aside0.mk (below_weaken HB2.out HB2.out.size hb3)
          have HK3 := Aside0.mk (HK2.out.trans (KeepBut.of_below hb3 g none) (.inl rfl))
          have hf1 := blk_frozen HI3.out.choose_spec.choose_spec.1 1
          have hd1 := cellS74_1 HI3.out.choose_spec.choose_spec.1
          clear hb3 hc3
          have HPos : ∀ h : N < 9223372036854775808, r1 = N ∧ r2 = t2 ∧ r3 = t3 ∧ r4 = t4 := fun h => by
            have hx := HX.out
            rw [show (some n).bind numPos = some N from by show numPos n = _; unfold numPos; rw [if_neg (by have := HN.out; omega), HN.out]] at hx
            simp only [Option.some.injEq, Prod.mk.injEq] at hx
            exact ⟨hx.1.symm, hx.2.1.symm, hx.2.2.1.symm, hx.2.2.2.symm⟩
          have HNeg : ∀ h : 9223372036854775808 ≤ N, r1 = 0 ∧ say_parser_fail.f s0_0 s0_1 t3 t4 = some (r2, r3, r4) := fun h => by
            have hx := HX.out
            rw [show (some n).bind numPos = none from by show numPos n = _; unfold numPos; rw [if_pos (by have := HN.out; omega)]] at hx
            obtain ⟨⟨q1, q2, q3⟩, hq, h⟩ := Option.bind_eq_some_iff.mp hx
            simp only [Option.some.injEq, Prod.mk.injEq] at h
            obtain ⟨rfl, rfl, rfl, rfl⟩ := h
            exact ⟨rfl, hq⟩
          have HP := Aside0.mk HPos
          have HM := Aside0.mk HNeg
          clear HPos HNeg
          go_wp2_with fail
          · have hlt : N < 9223372036854775808 := by assumption
            obtain ⟨rfl, rfl, rfl, rfl⟩ := HP.out hlt
            go_ret
            exact ⟨rfl, HI3.out, HB3.out, HK3.out⟩
          · have hge : 9223372036854775808 ≤ N := by assumption
            obtain ⟨rfl, hq⟩ := HM.out hge
            have HQ := Aside0.mk hq
            clear hq hge
            refine (say_parser_fail.calls g s0_0 s0_1 t3 t4 _ _ _ w0 _ (IsS74.set_1 HI3.out _) (below_set HB3.out (IsS74.ge HI3.out)) HQ.out).mono ?_
            rintro e w4 ⟨rfl, hi, hb4, hk⟩
            go_wp2_with fail
            go_ret
            exact ⟨rfl, hi, hb4, (HK3.out.set_ 1 _).trans hk (.inl rfl)⟩
    · rw [if_neg hz] at h
      exact absurd h (by simp)

end Go.Proofs.Ytokkjnfdfbpphaa.A
namespace Go.Proofs.Ytokkjnfdfbpphaa.A
open Go.RowKit Go.Proofs.YtokkjnfdfbpphaaW.PrintWords Go.Proofs.YtokkjnfdfbpphaaW.PrintLast Go.Proofs.YtokkjnfdfbpphaaW.PrintMore
attribute [local go_sem] max2_int min2_int max_two min_two max_three min_three max_four min_four   -- for this text's walks alone
set_option linter.unusedVariables false
set_option linter.unusedSimpArgs false

/-! ### say_parser_peek: function 75 -/
def say_parser_peek.f (s0_0 : List (S28)) (s0_1 : Int) (s0_2 : Int) (s0_3 : Int) (a1 : ByteArray) : Option (Bool × Int × Int × Int) := if s0_3 < 0 then (if s0_1 < (s0_0.length : Int) then (if 0 ≤ s0_1 then (if ((rd_T28 s0_0 s0_1).f0) = 3 then (some ((((rd_T28 s0_0 s0_1).f1).toList == a1.toList), s0_1, s0_2, s0_3)) else (some (false, s0_1, s0_2, s0_3))) else (none)) else (some (false, s0_1, s0_2, s0_3))) else (some (false, s0_1, s0_2, s0_3))
set_option maxHeartbeats 8000000 in
set_option maxRecDepth 100000 in
theorem say_parser_peek.calls (g : Nat) (s0_0 : List (S28)) (s0_1 : Int) (s0_2 : Int) (s0_3 : Int) (a1 : ByteArray) (r1 : Bool) (r2 : Int) (r3 : Int) (r4 : Int) (w0 w : World) (hI : IsS74 w0 w g s0_0 s0_1 s0_2 s0_3) (hB : Below w0.heap.size w0 w) (h : say_parser_peek.f s0_0 s0_1 s0_2 s0_3 a1 = some (r1, r2, r3, r4)) :
    Calls Try.prog 75 #[.pointer (some ⟨g, 0, none⟩), .string a1] w fun e w' => e = .returned (.bool r1) ∧ IsS74 w0 w' g s0_0 r2 r3 r4 ∧ Below w0.heap.size w0 w' ∧ KeepBut w w' g none := by
  have HI0 := Aside0.mk hI
  have HK := Aside0.mk (KeepBut.refl w g none)
  have HL := Aside0.mk hB.size
  clear hI
  have HW0 := Aside0.mk hB.size
  have HB := Aside0.mk hB
  clear hB
  have H : (if s0_3 < 0 then (if s0_1 < (s0_0.length : Int) then (if 0 ≤ s0_1 then (if ((rd_T28 s0_0 s0_1).f0) = 3 then (some ((((rd_T28 s0_0 s0_1).f1).toList == a1.toList), s0_1, s0_2, s0_3)) else (some (false, s0_1, s0_2, s0_3))) else (none)) else (some (false, s0_1, s0_2, s0_3))) else (some (false, s0_1, s0_2, s0_3))) = some (r1, r2, r3, r4) := h
  clear h
  by_cases c3 : s0_3 < 0
  · rw [if_pos c3] at H
    have c3b0 : decide (s0_3 < 0) = true := decide_eq_true c3
    clear c3
    by_cases c4 : s0_1 < (s0_0.length : Int)
    · rw [if_pos c4] at H
      have c4b0 : decide (s0_1 < (s0_0.length : Int)) = true := decide_eq_true c4
      clear c4
      by_cases c5 : 0 ≤ s0_1
      · rw [if_pos c5] at H
        have c5b0 : decide (0 ≤ s0_1) = true := decide_eq_true c5
        clear c5
        by_cases c6 : ((rd_T28 s0_0 s0_1).f0) = 3
        · rw [if_pos c6] at H
          have c6b0 : (((rd_T28 s0_0 s0_1).f0) == 3) = true := beq_iff_eq.mpr c6
          have c6b1 : (((rd_T28 s0_0 s0_1).f0) != 3) = false := bne_eq_false_iff_eq.mpr c6
          clear c6
          simp only [Option.some.injEq, Prod.mk.injEq] at H
          obtain ⟨rfl, rfl, rfl, rfl⟩ := H
          obtain ⟨ASz7_0, cSz7_0, HGz7, hgz7, HSz7_0⟩ := HI0.out
          have hcz7_0 := cellS74_0 HGz7
          have hcz7_1 := cellS74_1 HGz7
          have hcz7_2 := cellS74_2 HGz7
          have hcz7_3 := cellS74_3 HGz7
          have hfz7_1 := blk_frozen HGz7 1
          have hfz7_2 := blk_frozen HGz7 2
          have hfz7_3 := blk_frozen HGz7 3
          clear HGz7 hgz7
          have p138 : 0 ≤ (s0_1 : Int) := of_decide_eq_true (by first | (with_reducible assumption) | assumption)
          have q138 : s0_1 < (s0_0.length : Int) := of_decide_eq_true (by first | (with_reducible assumption) | assumption)
          obtain ⟨ad138, e138, hx138_0, hx138_1, hx138_2⟩ := at_T28 HSz7_0 s0_1 p138 q138
          cases e138
          replace hx138_0 := pw_cell_below HB.out hx138_0
          replace hx138_1 := pw_cell_below HB.out hx138_1
          replace hx138_2 := pw_cell_below HB.out hx138_2
          replace p138 := eq_true p138
          replace q138 := eq_true q138
          have p139 : 0 ≤ (s0_1 : Int) := of_decide_eq_true (by first | (with_reducible assumption) | assumption)
          have q139 : s0_1 < (s0_0.length : Int) := of_decide_eq_true (by first | (with_reducible assumption) | assumption)
          obtain ⟨ad139, e139, hx139_0, hx139_1, hx139_2⟩ := at_T28 HSz7_0 s0_1 p139 q139
          obtain rfl : ad138 = ad139 := (by injection e139)
          replace hx139_0 := pw_cell_below HB.out hx139_0
          replace hx139_1 := pw_cell_below HB.out hx139_1
          replace hx139_2 := pw_cell_below HB.out hx139_2
          replace p139 := eq_true p139
          replace q139 := eq_true q139
          go_enter Try.func75, Try.ntmps75
          go_wp2
          repeat (go_quiet (fail); try go_wp2)
          go_ret
          exact ⟨by first | rfl | (simp [errW_none, errW_some] <;> rfl) | (simp [*, errW_none, errW_some] <;> rfl), by repeat (first | (with_reducible first | exact HI0.out | apply IsS74.alloc | apply IsS74.drewN | apply IsS74.drew | apply IsS74.set_1 | apply IsS74.set_2 | apply IsS74.set_3) | exact HI0.out), by repeat (first | (with_reducible first | exact HB.out | apply below_alloc | apply pw_below_drewN | apply below_drew1 | refine below_set ?_ (IsS74.ge HI0.out)) | exact HB.out), by repeat (first | (with_reducible first | exact HK.out | apply KeepBut.set_ | apply keep_drewN | apply keep_drew | apply keep_alloc) | exact HK.out)⟩
        · rw [if_neg c6] at H
          have c6b0 : (((rd_T28 s0_0 s0_1).f0) == 3) = false := beq_eq_false_iff_ne.mpr c6
          have c6b1 : (((rd_T28 s0_0 s0_1).f0) != 3) = true := bne_iff_ne.mpr c6
          simp only [Option.some.injEq, Prod.mk.injEq] at H
          obtain ⟨rfl, rfl, rfl, rfl⟩ := H
          obtain ⟨ASz8_0, cSz8_0, HGz8, hgz8, HSz8_0⟩ := HI0.out
          have hcz8_0 := cellS74_0 HGz8
          have hcz8_1 := cellS74_1 HGz8
          have hcz8_2 := cellS74_2 HGz8
          have hcz8_3 := cellS74_3 HGz8
          have hfz8_1 := blk_frozen HGz8 1
          have hfz8_2 := blk_frozen HGz8 2
          have hfz8_3 := blk_frozen HGz8 3
          clear HGz8 hgz8
          have p138 : 0 ≤ (s0_1 : Int) := of_decide_eq_true (by first | (with_reducible assumption) | assumption)
          have q138 : s0_1 < (s0_0.length : Int) := of_decide_eq_true (by first | (with_reducible assumption) | assumption)
          obtain ⟨ad138, e138, hx138_0, hx138_1, hx138_2⟩ := at_T28 HSz8_0 s0_1 p138 q138
          cases e138
          replace hx138_0 := pw_cell_below HB.out hx138_0
          replace hx138_1 := pw_cell_below HB.out hx138_1
          replace hx138_2 := pw_cell_below HB.out hx138_2
          replace p138 := eq_true p138
          replace q138 := eq_true q138
          go_enter Try.func75, Try.ntmps75
          go_wp2
          repeat (go_quiet (fail); try go_wp2)
          go_ret
          exact ⟨by first | rfl | (simp [errW_none, errW_some] <;> rfl) | (simp [*, errW_none, errW_some] <;> rfl), by repeat (first | (with_reducible first | exact HI0.out | apply IsS74.alloc | apply IsS74.drewN | apply IsS74.drew | apply IsS74.set_1 | apply IsS74.set_2 | apply IsS74.set_3) | exact HI0.out), by repeat (first | (with_reducible first | exact HB.out | apply below_alloc | apply pw_below_drewN | apply below_drew1 | refine below_set ?_ (IsS74.ge HI0.out)) | exact HB.out), by repeat (first | (with_reducible first | exact HK.out | apply KeepBut.set_ | apply keep_drewN | apply keep_drew | apply keep_alloc) | exact HK.out)⟩
      · rw [if_neg c5] at H
        exact absurd H (by simp)
    · rw [if_neg c4] at H
      have c4b0 : decide (s0_1 < (s0_0.length : Int)) = false := decide_eq_false c4
      clear c4
      simp only [Option.some.injEq, Prod.mk.injEq] at H
      obtain ⟨rfl, rfl, rfl, rfl⟩ := H
      obtain ⟨ASz9_0, cSz9_0, HGz9, hgz9, HSz9_0⟩ := HI0.out
      have hcz9_0 := cellS74_0 HGz9
      have hcz9_1 := cellS74_1 HGz9
      have hcz9_2 := cellS74_2 HGz9
      have hcz9_3 := cellS74_3 HGz9
      have hfz9_1 := blk_frozen HGz9 1
      have hfz9_2 := blk_frozen HGz9 2
      have hfz9_3 := blk_frozen HGz9 3
      clear HGz9 hgz9
      go_enter Try.func75, Try.ntmps75
      go_wp2
      repeat (go_quiet (fail); try go_wp2)
      go_ret
      exact ⟨by first | rfl | (simp [errW_none, errW_some] <;> rfl) | (simp [*, errW_none, errW_some] <;> rfl), by repeat (first | (with_reducible first | exact HI0.out | apply IsS74.alloc | apply IsS74.drewN | apply IsS74.drew | apply IsS74.set_1 | apply IsS74.set_2 | apply IsS74.set_3) | exact HI0.out), by repeat (first | (with_reducible first | exact HB.out | apply below_alloc | apply pw_below_drewN | apply below_drew1 | refine below_set ?_ (IsS74.ge HI0.out)) | exact HB.out), by repeat (first | (with_reducible first | exact HK.out | apply KeepBut.set_ | apply keep_drewN | apply keep_drew | apply keep_alloc) | exact HK.out)⟩
  · rw [if_neg c3] at H
    have c3b0 : decide (s0_3 < 0) = false := decide_eq_false c3
    clear c3
    simp only [Option.some.injEq, Prod.mk.injEq] at H
    obtain ⟨rfl, rfl, rfl, rfl⟩ := H
    obtain ⟨ASz10_0, cSz10_0, HGz10, hgz10, HSz10_0⟩ := HI0.out
    have hcz10_0 := cellS74_0 HGz10
    have hcz10_1 := cellS74_1 HGz10
    have hcz10_2 := cellS74_2 HGz10
    have hcz10_3 := cellS74_3 HGz10
    have hfz10_1 := blk_frozen HGz10 1
    have hfz10_2 := blk_frozen HGz10 2
    have hfz10_3 := blk_frozen HGz10 3
    clear HGz10 hgz10
    go_enter Try.func75, Try.ntmps75
    go_wp2
    repeat (go_quiet (fail); try go_wp2)
    go_ret
    exact ⟨by first | rfl | (simp [errW_none, errW_some] <;> rfl) | (simp [*, errW_none, errW_some] <;> rfl), by repeat (first | (with_reducible first | exact HI0.out | apply IsS74.alloc | apply IsS74.drewN | apply IsS74.drew | apply IsS74.set_1 | apply IsS74.set_2 | apply IsS74.set_3) | exact HI0.out), by repeat (first | (with_reducible first | exact HB.out | apply below_alloc | apply pw_below_drewN | apply below_drew1 | refine below_set ?_ (IsS74.ge HI0.out)) | exact HB.out), by repeat (first | (with_reducible first | exact HK.out | apply KeepBut.set_ | apply keep_drewN | apply keep_drew | apply keep_alloc) | exact HK.out)⟩

end Go.Proofs.Ytokkjnfdfbpphaa.A
namespace Go.Proofs.Ytokkjnfdfbpphaa.A
open Go.RowKit Go.Proofs.YtokkjnfdfbpphaaW.PrintWords Go.Proofs.YtokkjnfdfbpphaaW.PrintLast Go.Proofs.YtokkjnfdfbpphaaW.PrintMore
attribute [local go_sem] max2_int min2_int max_two min_two max_three min_three max_four min_four   -- for this text's walks alone
set_option linter.unusedVariables false
set_option linter.unusedSimpArgs false

/-! ### say_parser_mark: function 63 -/
def say_parser_mark.f (s0_0 : List (S28)) (s0_1 : Int) (s0_2 : Int) (s0_3 : Int) (a1 : ByteArray) : Option (Int × Int × Int) := (say_parser_peek.f s0_0 s0_1 s0_2 s0_3 a1).bind fun bt140 => (if bt140.1 = true then (some (wrap64 (bt140.2.1 + 1), bt140.2.2.1, bt140.2.2.2)) else ((say_parser_fail.f s0_0 bt140.2.1 bt140.2.2.1 bt140.2.2.2).bind fun bt144 => (some (bt144.1, bt144.2.1, bt144.2.2))))
set_option maxHeartbeats 8000000 in
set_option maxRecDepth 100000 in
theorem say_parser_mark.calls (g : Nat) (s0_0 : List (S28)) (s0_1 : Int) (s0_2 : Int) (s0_3 : Int) (a1 : ByteArray) (r1 : Int) (r2 : Int) (r3 : Int) (w0 w : World) (hI : IsS74 w0 w g s0_0 s0_1 s0_2 s0_3) (hB : Below w0.heap.size w0 w) (h : say_parser_mark.f s0_0 s0_1 s0_2 s0_3 a1 = some (r1, r2, r3)) :
    Calls Try.prog 63 #[.pointer (some ⟨g, 0, none⟩), .string a1] w fun e w' => e = .returned (.tuple #[]) ∧ IsS74 w0 w' g s0_0 r1 r2 r3 ∧ Below w0.heap.size w0 w' ∧ KeepBut w w' g none := by
  have HI0 := Aside0.mk hI
  have HK := Aside0.mk (KeepBut.refl w g none)
  have HL := Aside0.mk hB.size
  clear hI
  have HW0 := Aside0.mk hB.size
  have HB := Aside0.mk hB
  clear hB
  have H : ((say_parser_peek.f s0_0 s0_1 s0_2 s0_3 a1).bind fun bt140 => (if bt140.1 = true then (some (wrap64 (bt140.2.1 + 1), bt140.2.2.1, bt140.2.2.2)) else ((say_parser_fail.f s0_0 bt140.2.1 bt140.2.2.1 bt140.2.2.2).bind fun bt144 => (some (bt144.1, bt144.2.1, bt144.2.2))))) = some (r1, r2, r3) := h
  clear h
  replace H := Option.bind_eq_some_iff.mp H
  obtain ⟨⟨t140, t141, t142, t143⟩, A30, H⟩ := H
  replace H : (if t140 = true then (some (wrap64 (t141 + 1), t142, t143)) else ((say_parser_fail.f s0_0 t141 t142 t143).bind fun bt144 => (some (bt144.1, bt144.2.1, bt144.2.2)))) = some (r1, r2, r3) := H
  have A3 := Aside0.mk A30
  clear A30
  by_cases c4 : t140 = true
  · subst c4
    have H1 : (some (wrap64 (t141 + 1), t142, t143)) = some (r1, r2, r3) := by rw [if_pos rfl] at H; exact H
    clear H
    have H := H1
    clear H1
    simp only [Option.some.injEq, Prod.mk.injEq] at H
    obtain ⟨rfl, rfl, rfl⟩ := H
    go_enter Try.func63, Try.ntmps63
    go_wp2_with (first | ((with_reducible refine gate_callee (f := 75) rfl ?_); refine goesL_ (some 6) rfl rfl Try.func75 (by kernel_rfl) rfl #[.pointer (some ⟨g, 0, none⟩), .string a1] rfl (by (try simp only [List.map_toArray, List.map_cons, List.map_nil]); first | done | rfl | (simp only [List.length_drop, List.length_take]; rfl)) ?_; (with_reducible refine (say_parser_peek.calls g s0_0 s0_1 s0_2 s0_3 a1 true t141 t142 t143 w0 _ ?side1 ?side2 A3.out).mono ?_); (case side1 => repeat (first | (with_reducible first | exact HI0.out | apply IsS74.alloc | apply IsS74.drewN | apply IsS74.drew | apply IsS74.set_1 | apply IsS74.set_2 | apply IsS74.set_3) | exact HI0.out)); (case side2 => repeat (first | (with_reducible first | exact HB.out | apply below_alloc | apply pw_below_drewN | apply below_drew1 | refine below_set ?_ (IsS74.ge HI0.out)) | exact HB.out)); rintro e w5 ⟨rfl, hi, hb, hk⟩; refine ⟨_, rfl, ?_⟩; have n0_ := Aside0.mk (KeepBut.trans (by repeat (first | (with_reducible first | exact HK.out | apply KeepBut.set_ | apply keep_drewN | apply keep_drew | apply keep_alloc) | exact HK.out)) hk (.inl rfl)); have n1_ := Aside0.mk (hb); have n2_ := Aside0.mk (hi); clear HK; clear HB; clear HI0; have HK := n0_; have HB := n1_; have HI0 := n2_; clear n0_ n1_ n2_; (try clear hb); (try clear hb2); (try clear hk); (try clear hi); obtain ⟨ASz6_0, cSz6_0, HGz6, hgz6, HSz6_0⟩ := HI0.out; have hcz6_0 := cellS74_0 HGz6; have hcz6_1 := cellS74_1 HGz6; have hcz6_2 := cellS74_2 HGz6; have hcz6_3 := cellS74_3 HGz6; have hfz6_1 := blk_frozen HGz6 1; have hfz6_2 := blk_frozen HGz6 2; have hfz6_3 := blk_frozen HGz6 3; clear HGz6 hgz6))
    first | go_end0 | ((try simp only [Exit.inBlock, Exit.then]); refine bodyPost_ret (results_none rfl _ _ _) rfl ?_)
    exact ⟨by first | rfl | (simp [errW_none, errW_some] <;> rfl) | (simp [*, errW_none, errW_some] <;> rfl), by repeat (first | (with_reducible first | exact HI0.out | apply IsS74.alloc | apply IsS74.drewN | apply IsS74.drew | apply IsS74.set_1 | apply IsS74.set_2 | apply IsS74.set_3) | exact HI0.out), by repeat (first | (with_reducible first | exact HB.out | apply below_alloc | apply pw_below_drewN | apply below_drew1 | refine below_set ?_ (IsS74.ge HI0.out)) | exact HB.out), by repeat (first | (with_reducible first | exact HK.out | apply KeepBut.set_ | apply keep_drewN | apply keep_drew | apply keep_alloc) | exact HK.out)⟩
  · replace c4 := Bool.eq_false_iff.mpr c4
    subst c4
    have H1 : ((say_parser_fail.f s0_0 t141 t142 t143).bind fun bt144 => (some (bt144.1, bt144.2.1, bt144.2.2))) = some (r1, r2, r3) := by rw [if_neg (show ¬ (false = true) by decide)] at H; exact H
    clear H
    have H := H1
    clear H1
    replace H := Option.bind_eq_some_iff.mp H
    obtain ⟨⟨t144, t145, t146⟩, A70, H⟩ := H
    replace H : (some (t144, t145, t146)) = some (r1, r2, r3) := H
    have A7 := Aside0.mk A70
    clear A70
    simp only [Option.some.injEq, Prod.mk.injEq] at H
    obtain ⟨rfl, rfl, rfl⟩ := H
    go_enter Try.func63, Try.ntmps63
    go_wp2_with (first | ((with_reducible refine gate_callee (f := 75) rfl ?_); refine goesL_ (some 6) rfl rfl Try.func75 (by kernel_rfl) rfl #[.pointer (some ⟨g, 0, none⟩), .string a1] rfl (by (try simp only [List.map_toArray, List.map_cons, List.map_nil]); first | done | rfl | (simp only [List.length_drop, List.length_take]; rfl)) ?_; (with_reducible refine (say_parser_peek.calls g s0_0 s0_1 s0_2 s0_3 a1 false t141 t142 t143 w0 _ ?side1 ?side2 A3.out).mono ?_); (case side1 => repeat (first | (with_reducible first | exact HI0.out | apply IsS74.alloc | apply IsS74.drewN | apply IsS74.drew | apply IsS74.set_1 | apply IsS74.set_2 | apply IsS74.set_3) | exact HI0.out)); (case side2 => repeat (first | (with_reducible first | exact HB.out | apply below_alloc | apply pw_below_drewN | apply below_drew1 | refine below_set ?_ (IsS74.ge HI0.out)) | exact HB.out)); rintro e w8 ⟨rfl, hi, hb, hk⟩; refine ⟨_, rfl, ?_⟩; have n0_ := Aside0.mk (KeepBut.trans (by repeat (first | (with_reducible first | exact HK.out | apply KeepBut.set_ | apply keep_drewN | apply keep_drew | apply keep_alloc) | exact HK.out)) hk (.inl rfl)); have n1_ := Aside0.mk (hb); have n2_ := Aside0.mk (hi); clear HK; clear HB; clear HI0; have HK := n0_; have HB := n1_; have HI0 := n2_; clear n0_ n1_ n2_; (try clear hb); (try clear hb2); (try clear hk); (try clear hi)) | ((with_reducible refine gate_callee (f := 55) rfl ?_); refine goesL_ (some 9) rfl rfl Try.func55 (by kernel_rfl) rfl #[.pointer (some ⟨g, 0, none⟩)] rfl (by (try simp only [List.map_toArray, List.map_cons, List.map_nil]); first | done | rfl | (simp only [List.length_drop, List.length_take]; rfl)) ?_; (with_reducible refine (say_parser_fail.calls g s0_0 t141 t142 t143 t144 t145 t146 w0 _ ?side1 ?side2 A7.out).mono ?_); (case side1 => repeat (first | (with_reducible first | exact HI0.out | apply IsS74.alloc | apply IsS74.drewN | apply IsS74.drew | apply IsS74.set_1 | apply IsS74.set_2 | apply IsS74.set_3) | exact HI0.out)); (case side2 => repeat (first | (with_reducible first | exact HB.out | apply below_alloc | apply pw_below_drewN | apply below_drew1 | refine below_set ?_ (IsS74.ge HI0.out)) | exact HB.out)); rintro e w9 ⟨rfl, hi, hb, hk⟩; refine ⟨_, rfl, ?_⟩; have n0_ := Aside0.mk (KeepBut.trans (by repeat (first | (with_reducible first | exact HK.out | apply KeepBut.set_ | apply keep_drewN | apply keep_drew | apply keep_alloc) | exact HK.out)) hk (.inl rfl)); have n1_ := Aside0.mk (hb); have n2_ := Aside0.mk (hi); clear HK; clear HB; clear HI0; have HK := n0_; have HB := n1_; have HI0 := n2_; clear n0_ n1_ n2_; (try clear hb); (try clear hb2); (try clear hk); (try clear hi)))
    first | go_end0 | ((try simp only [Exit.inBlock, Exit.then]); refine bodyPost_ret (results_none rfl _ _ _) rfl ?_)
    exact ⟨by first | rfl | (simp [errW_none, errW_some] <;> rfl) | (simp [*, errW_none, errW_some] <;> rfl), by repeat (first | (with_reducible first | exact HI0.out | apply IsS74.alloc | apply IsS74.drewN | apply IsS74.drew | apply IsS74.set_1 | apply IsS74.set_2 | apply IsS74.set_3) | exact HI0.out), by repeat (first | (with_reducible first | exact HB.out | apply below_alloc | apply pw_below_drewN | apply below_drew1 | refine below_set ?_ (IsS74.ge HI0.out)) | exact HB.out), by repeat (first | (with_reducible first | exact HK.out | apply KeepBut.set_ | apply keep_drewN | apply keep_drew | apply keep_alloc) | exact HK.out)⟩

end Go.Proofs.Ytokkjnfdfbpphaa.A
namespace Go.Proofs.Ytokkjnfdfbpphaa.A
open Go.RowKit Go.Proofs.YtokkjnfdfbpphaaW.PrintWords Go.Proofs.YtokkjnfdfbpphaaW.PrintLast Go.Proofs.YtokkjnfdfbpphaaW.PrintMore
attribute [local go_sem] max2_int min2_int max_two min_two max_three min_three max_four min_four   -- for this text's walks alone
set_option linter.unusedVariables false
set_option linter.unusedSimpArgs false

/-! ### say_parser_count: function 73 -/
def say_parser_count.j0 : Nat → Int → Int → Bool → Bool → List (S28) → Int → Int → Int → Option (Int × Int × Int × Int)
  | 0, _, _, _, _, _, _, _, _ => none
  | k + 1, x3, x4, x5, x24, x1000, x1001, x1002, x1003 => if x24 = true then ((say_parser_fail.f x1000 x3 x1002 x1003).bind fun bt183 => (if x5 = true then (some (x4, bt183.1, bt183.2.1, bt183.2.2)) else (some (0, bt183.1, bt183.2.1, bt183.2.2)))) else (if x5 = true then (some (x4, x1001, x1002, x1003)) else (some (0, x1001, x1002, x1003)))
def say_parser_count.f (k : Nat) (s0_0 : List (S28)) (s0_1 : Int) (s0_2 : Int) (s0_3 : Int) : Option (Int × Int × Int × Int) := (say_parser_take.f s0_0 s0_1 s0_2 s0_3 1).bind fun bt177 => ((say_digits.f bt177.1).bind fun bt181 => (if bt177.2.2.2 < 0 then (say_parser_count.j0 k s0_1 bt181.1 bt181.2 (!bt181.2) s0_0 bt177.2.1 bt177.2.2.1 bt177.2.2.2) else (say_parser_count.j0 k s0_1 bt181.1 bt181.2 false s0_0 bt177.2.1 bt177.2.2.1 bt177.2.2.2)))
theorem say_parser_count.mono_l : ∀ k, (∀ y0 y1 y2 y3 y4 y5 y6 y7, LeO (say_parser_count.j0 k y0 y1 y2 y3 y4 y5 y6 y7) (say_parser_count.j0 (k + 1) y0 y1 y2 y3 y4 y5 y6 y7))
  | 0 => fun _ _ _ _ _ _ _ _ r h => by simp [say_parser_count.j0] at h
  | k + 1 => by
    have ih0 := say_parser_count.mono_l k
    · intro y0 y1 y2 y3 y4 y5 y6 y7
      unfold say_parser_count.j0
      repeat' first
      | (with_reducible exact ih0 _ _ _ _ _ _ _ _)
      | (with_reducible exact LeO.refl _)
      | (with_reducible exact LeO.none _)
      | (with_reducible refine LeO.ite ?_ ?_)
      | (with_reducible refine LeO.bind ?_ (fun _ => ?_))
      | exact ih0 _ _ _ _ _ _ _ _
      | exact LeO.none _
      | refine LeO.ite ?_ ?_
      | refine LeO.bind ?_ (fun _ => ?_)
theorem say_parser_count.mono : ∀ a0 a1 a2 a3 k, LeO (say_parser_count.f k a0 a1 a2 a3) (say_parser_count.f (k + 1) a0 a1 a2 a3) := by
  intro a0 a1 a2 a3 k
  have ih0 := say_parser_count.mono_l k
  unfold say_parser_count.f
  repeat' first
      | (with_reducible exact ih0 _ _ _ _ _ _ _ _)
      | (with_reducible exact LeO.refl _)
      | (with_reducible exact LeO.none _)
      | (with_reducible refine LeO.ite ?_ ?_)
      | (with_reducible refine LeO.bind ?_ (fun _ => ?_))
      | exact ih0 _ _ _ _ _ _ _ _
      | exact LeO.none _
      | refine LeO.ite ?_ ?_
      | refine LeO.bind ?_ (fun _ => ?_)
set_option maxHeartbeats 8000000 in
set_option maxRecDepth 100000 in
theorem say_parser_count.calls (k : Nat) (g : Nat) (s0_0 : List (S28)) (s0_1 : Int) (s0_2 : Int) (s0_3 : Int) (r1 : Int) (r2 : Int) (r3 : Int) (r4 : Int) (w0 w : World) (hI : IsS74 w0 w g s0_0 s0_1 s0_2 s0_3) (hB : Below w0.heap.size w0 w) (h : say_parser_count.f k s0_0 s0_1 s0_2 s0_3 = some (r1, r2, r3, r4)) :
    Calls Try.prog 73 #[.pointer (some ⟨g, 0, none⟩)] w fun e w' => e = .returned (.int .u64 r1) ∧ IsS74 w0 w' g s0_0 r2 r3 r4 ∧ Below w0.heap.size w0 w' ∧ KeepBut w w' g none := by
  have HI0 := Aside0.mk hI
  have HK := Aside0.mk (KeepBut.refl w g none)
  have HL := Aside0.mk hB.size
  clear hI
  have HW0 := Aside0.mk hB.size
  have HB := Aside0.mk hB
  clear hB
  have H : ((say_parser_take.f s0_0 s0_1 s0_2 s0_3 1).bind fun bt177 => ((say_digits.f bt177.1).bind fun bt181 => (if bt177.2.2.2 < 0 then (say_parser_count.j0 k s0_1 bt181.1 bt181.2 (!bt181.2) s0_0 bt177.2.1 bt177.2.2.1 bt177.2.2.2) else (say_parser_count.j0 k s0_1 bt181.1 bt181.2 false s0_0 bt177.2.1 bt177.2.2.1 bt177.2.2.2)))) = some (r1, r2, r3, r4) := h
  clear h
  replace H := Option.bind_eq_some_iff.mp H
  obtain ⟨⟨t177, t178, t179, t180⟩, A20, H⟩ := H
  replace H : ((say_digits.f t177).bind fun bt181 => (if t180 < 0 then (say_parser_count.j0 k s0_1 bt181.1 bt181.2 (!bt181.2) s0_0 t178 t179 t180) else (say_parser_count.j0 k s0_1 bt181.1 bt181.2 false s0_0 t178 t179 t180))) = some (r1, r2, r3, r4) := H
  have A2 := Aside0.mk A20
  clear A20
  replace H := Option.bind_eq_some_iff.mp H
  obtain ⟨⟨t181, t182⟩, A30, H⟩ := H
  replace H : (if t180 < 0 then (say_parser_count.j0 k s0_1 t181 t182 (!t182) s0_0 t178 t179 t180) else (say_parser_count.j0 k s0_1 t181 t182 false s0_0 t178 t179 t180)) = some (r1, r2, r3, r4) := H
  have A3 := Aside0.mk A30
  clear A30
  have HC4 := Aside0.mk H
  clear H
  obtain ⟨ASz5_0, cSz5_0, HGz5, hgz5, HSz5_0⟩ := HI0.out
  have hcz5_0 := cellS74_0 HGz5
  have hcz5_1 := cellS74_1 HGz5
  have hcz5_2 := cellS74_2 HGz5
  have hcz5_3 := cellS74_3 HGz5
  have hfz5_1 := blk_frozen HGz5 1
  have hfz5_2 := blk_frozen HGz5 2
  have hfz5_3 := blk_frozen HGz5 3
  clear HGz5 hgz5
  go_enter Try.func73, Try.ntmps73
  go_upto_region 3 with (first | ((with_reducible refine gate_callee (f := 61) rfl ?_); refine goesL_ (some 12) rfl rfl Try.func61 (by kernel_rfl) rfl #[.pointer (some ⟨g, 0, none⟩), .int .i64 1] rfl (by (try simp only [List.map_toArray, List.map_cons, List.map_nil]); first | done | rfl | (simp only [List.length_drop, List.length_take]; rfl)) ?_; (with_reducible refine (say_parser_take.calls g s0_0 s0_1 s0_2 s0_3 1 t177 t178 t179 t180 w0 _ ?side1 ?side2 A2.out).mono ?_); (case side1 => repeat (first | (with_reducible first | exact HI0.out | apply IsS74.alloc | apply IsS74.drewN | apply IsS74.drew | apply IsS74.set_1 | apply IsS74.set_2 | apply IsS74.set_3) | exact HI0.out)); (case side2 => repeat (first | (with_reducible first | exact HB.out | apply below_alloc | apply pw_below_drewN | apply below_drew1 | refine below_set ?_ (IsS74.ge HI0.out)) | exact HB.out)); rintro e w6 ⟨rfl, hi, hb, hk⟩; refine ⟨_, rfl, ?_⟩; have n0_ := Aside0.mk (KeepBut.trans (by repeat (first | (with_reducible first | exact HK.out | apply KeepBut.set_ | apply keep_drewN | apply keep_drew | apply keep_alloc) | exact HK.out)) hk (.inl rfl)); have n1_ := Aside0.mk (hb); have n2_ := Aside0.mk (hi); clear HK; clear HB; clear HI0; have HK := n0_; have HB := n1_; have HI0 := n2_; clear n0_ n1_ n2_; (try clear hb); (try clear hb2); (try clear hk); (try clear hi)) | ((with_reducible refine gate_callee (f := 69) rfl ?_); refine goesL_ (some 13) rfl rfl Try.func69 (by kernel_rfl) rfl #[.string t177] rfl (by (try simp only [List.map_toArray, List.map_cons, List.map_nil]); first | done | rfl | (simp only [List.length_drop, List.length_take]; rfl)) ?_; (with_reducible refine (say_digits.calls t177 t181 t182 _ A3.out).mono ?_); rintro e w7 ⟨rfl, hb⟩; refine ⟨_, rfl, ?_⟩; have n0_ := Aside0.mk (IsS74.below (by repeat (first | (with_reducible first | exact HI0.out | apply IsS74.alloc | apply IsS74.drewN | apply IsS74.drew | apply IsS74.set_1 | apply IsS74.set_2 | apply IsS74.set_3) | exact HI0.out)) hb); have n1_ := Aside0.mk (KeepBut.trans (by repeat (first | (with_reducible first | exact HK.out | apply KeepBut.set_ | apply keep_drewN | apply keep_drew | apply keep_alloc) | exact HK.out)) (KeepBut.of_below hb g none) (.inl rfl)); have n2_ := Aside0.mk (below_step (by repeat (first | (with_reducible first | exact HB.out | apply below_alloc | apply pw_below_drewN | apply below_drew1 | refine below_set ?_ (IsS74.ge HI0.out)) | exact HB.out)) hb); clear HI0; clear HK; clear HB; have HI0 := n0_; have HK := n1_; have HB := n2_; clear n0_ n1_ n2_; (try clear hb); (try clear hb2); (try clear hk); (try clear hi)))
  (try simp only [Act.put, List.setIfInBounds_toArray, List.set_cons_zero, List.set_cons_succ])
  go_cut [24] (fun v24 wc => ∃ (kq : Nat) (x24_3 : Bool), v24 = .bool x24_3 ∧ Aside0 (say_parser_count.j0 kq s0_1 t181 t182 x24_3 s0_0 t178 t179 t180 = some (r1, r2, r3, r4)) ∧ Aside0 (kq ≤ k) ∧ Aside0 (IsS74 w0 wc g s0_0 t178 t179 t180) ∧ Aside0 (KeepBut w wc g none) ∧ Aside0 (Below w0.heap.size w0 wc))
  case first =>
    have H := HC4.out
    clear HC4
    by_cases c8 : t180 < 0
    · rw [if_pos c8] at H
      have c8b0 : decide (t180 < 0) = true := decide_eq_true c8
      clear c8
      (first | rw [c8b0] | (simp only [i64_w, i32_w]; rw [c8b0]) | skip)
      have H' := Aside0.mk H
      clear H
      obtain ⟨ASz9_0, cSz9_0, HGz9, hgz9, HSz9_0⟩ := HI0.out
      have hcz9_0 := cellS74_0 HGz9
      have hcz9_1 := cellS74_1 HGz9
      have hcz9_2 := cellS74_2 HGz9
      have hcz9_3 := cellS74_3 HGz9
      have hfz9_1 := blk_frozen HGz9 1
      have hfz9_2 := blk_frozen HGz9 2
      have hfz9_3 := blk_frozen HGz9 3
      clear HGz9 hgz9
      go_wp2
      go_meet
      case rel => exact ⟨_, (!t182), (by first | rfl | (simp; done) | (simp [*]; done)), H', ⟨by first | omega | exact Nat.le_refl _⟩, ⟨by repeat (first | (with_reducible first | exact HI0.out | apply IsS74.alloc | apply IsS74.drewN | apply IsS74.drew | apply IsS74.set_1 | apply IsS74.set_2 | apply IsS74.set_3) | exact HI0.out)⟩, ⟨by repeat (first | (with_reducible first | exact HK.out | apply KeepBut.set_ | apply keep_drewN | apply keep_drew | apply keep_alloc) | exact HK.out)⟩, ⟨by repeat (first | (with_reducible first | exact HB.out | apply below_alloc | apply pw_below_drewN | apply below_drew1 | refine below_set ?_ (IsS74.ge HI0.out)) | exact HB.out)⟩⟩
    · rw [if_neg c8] at H
      have c8b0 : decide (t180 < 0) = false := decide_eq_false c8
      clear c8
      (first | rw [c8b0] | (simp only [i64_w, i32_w]; rw [c8b0]) | skip)
      have H' := Aside0.mk H
      clear H
      obtain ⟨ASz10_0, cSz10_0, HGz10, hgz10, HSz10_0⟩ := HI0.out
      have hcz10_0 := cellS74_0 HGz10
      have hcz10_1 := cellS74_1 HGz10
      have hcz10_2 := cellS74_2 HGz10
      have hcz10_3 := cellS74_3 HGz10
      have hfz10_1 := blk_frozen HGz10 1
      have hfz10_2 := blk_frozen HGz10 2
      have hfz10_3 := blk_frozen HGz10 3
      clear HGz10 hgz10
      go_wp2
      go_meet
      case rel => exact ⟨_, (false), (by first | rfl | (simp; done) | (simp [*]; done)), H', ⟨by first | omega | exact Nat.le_refl _⟩, ⟨by repeat (first | (with_reducible first | exact HI0.out | apply IsS74.alloc | apply IsS74.drewN | apply IsS74.drew | apply IsS74.set_1 | apply IsS74.set_2 | apply IsS74.set_3) | exact HI0.out)⟩, ⟨by repeat (first | (with_reducible first | exact HK.out | apply KeepBut.set_ | apply keep_drewN | apply keep_drew | apply keep_alloc) | exact HK.out)⟩, ⟨by repeat (first | (with_reducible first | exact HB.out | apply below_alloc | apply pw_below_drewN | apply below_drew1 | refine below_set ?_ (IsS74.ge HI0.out)) | exact HB.out)⟩⟩
  case rest =>
    clear HC4
    try clear p2
    try clear c6
    try clear c7
    try clear c8
    try clear c8b0
    try clear hcz10_0
    try clear hcz10_1
    try clear hcz10_2
    try clear hcz10_3
    try clear hcz5_0
    try clear hcz5_1
    try clear hcz5_2
    try clear hcz5_3
    try clear hcz9_0
    try clear hcz9_1
    try clear hcz9_2
    try clear hcz9_3
    try clear hfz10_1
    try clear hfz10_2
    try clear hfz10_3
    try clear hfz5_1
    try clear hfz5_2
    try clear hfz5_3
    try clear hfz9_1
    try clear hfz9_2
    try clear hfz9_3
    obtain ⟨kq, x24_3, rfl, HA, HJ3, HI0, HK, HB⟩ := hcut
    cases kq with
    | zero => exact absurd HA.out (by simp [say_parser_count.j0])
    | succ kj3 =>
      have H := HA.out
      clear HA
      simp only [say_parser_count.j0] at H
      by_cases c11 : x24_3 = true
      · subst c11
        have H1 : ((say_parser_fail.f s0_0 s0_1 t179 t180).bind fun bt183 => (if t182 = true then (some (t181, bt183.1, bt183.2.1, bt183.2.2)) else (some (0, bt183.1, bt183.2.1, bt183.2.2)))) = some (r1, r2, r3, r4) := by rw [if_pos rfl] at H; exact H
        clear H
        have H := H1
        clear H1
        replace H := Option.bind_eq_some_iff.mp H
        obtain ⟨⟨t183, t184, t185⟩, A120, H⟩ := H
        replace H : (if t182 = true then (some (t181, t183, t184, t185)) else (some (0, t183, t184, t185))) = some (r1, r2, r3, r4) := H
        have A12 := Aside0.mk A120
        clear A120
        by_cases c13 : t182 = true
        · subst c13
          have H1 : (some (t181, t183, t184, t185)) = some (r1, r2, r3, r4) := by rw [if_pos rfl] at H; exact H
          clear H
          have H := H1
          clear H1
          simp only [Option.some.injEq, Prod.mk.injEq] at H
          obtain ⟨rfl, rfl, rfl, rfl⟩ := H
          obtain ⟨ASz14_0, cSz14_0, HGz14, hgz14, HSz14_0⟩ := HI0.out
          have hcz14_0 := cellS74_0 HGz14
          have hcz14_1 := cellS74_1 HGz14
          have hcz14_2 := cellS74_2 HGz14
          have hcz14_3 := cellS74_3 HGz14
          have hfz14_1 := blk_frozen HGz14 1
          have hfz14_2 := blk_frozen HGz14 2
          have hfz14_3 := blk_frozen HGz14 3
          clear HGz14 hgz14
          go_wp2_with (first | ((with_reducible refine gate_callee (f := 55) rfl ?_); refine goesL_ (some 30) rfl rfl Try.func55 (by kernel_rfl) rfl #[.pointer (some ⟨g, 0, none⟩)] rfl (by (try simp only [List.map_toArray, List.map_cons, List.map_nil]); first | done | rfl | (simp only [List.length_drop, List.length_take]; rfl)) ?_; (with_reducible refine (say_parser_fail.calls g s0_0 s0_1 t179 t180 t183 t184 t185 w0 _ ?side1 ?side2 A12.out).mono ?_); (case side1 => repeat (first | (with_reducible first | exact HI0.out | apply IsS74.alloc | apply IsS74.drewN | apply IsS74.drew | apply IsS74.set_1 | apply IsS74.set_2 | apply IsS74.set_3) | exact HI0.out)); (case side2 => repeat (first | (with_reducible first | exact HB.out | apply below_alloc | apply pw_below_drewN | apply below_drew1 | refine below_set ?_ (IsS74.ge HI0.out)) | exact HB.out)); rintro e w15 ⟨rfl, hi, hb, hk⟩; refine ⟨_, rfl, ?_⟩; have n0_ := Aside0.mk (KeepBut.trans (by repeat (first | (with_reducible first | exact HK.out | apply KeepBut.set_ | apply keep_drewN | apply keep_drew | apply keep_alloc) | exact HK.out)) hk (.inl rfl)); have n1_ := Aside0.mk (hb); have n2_ := Aside0.mk (hi); clear HK; clear HB; clear HI0; have HK := n0_; have HB := n1_; have HI0 := n2_; clear n0_ n1_ n2_; (try clear hb); (try clear hb2); (try clear hk); (try clear hi)))
          go_ret
          exact ⟨by first | rfl | (simp [errW_none, errW_some] <;> rfl) | (simp [*, errW_none, errW_some] <;> rfl), by repeat (first | (with_reducible first | exact HI0.out | apply IsS74.alloc | apply IsS74.drewN | apply IsS74.drew | apply IsS74.set_1 | apply IsS74.set_2 | apply IsS74.set_3) | exact HI0.out), by repeat (first | (with_reducible first | exact HB.out | apply below_alloc | apply pw_below_drewN | apply below_drew1 | refine below_set ?_ (IsS74.ge HI0.out)) | exact HB.out), by repeat (first | (with_reducible first | exact HK.out | apply KeepBut.set_ | apply keep_drewN | apply keep_drew | apply keep_alloc) | exact HK.out)⟩
        · replace c13 := Bool.eq_false_iff.mpr c13
          subst c13
          have H1 : (some (0, t183, t184, t185)) = some (r1, r2, r3, r4) := by rw [if_neg (show ¬ (false = true) by decide)] at H; exact H
          clear H
          have H := H1
          clear H1
          simp only [Option.some.injEq, Prod.mk.injEq] at H
          obtain ⟨rfl, rfl, rfl, rfl⟩ := H
          obtain ⟨ASz16_0, cSz16_0, HGz16, hgz16, HSz16_0⟩ := HI0.out
          have hcz16_0 := cellS74_0 HGz16
          have hcz16_1 := cellS74_1 HGz16
          have hcz16_2 := cellS74_2 HGz16
          have hcz16_3 := cellS74_3 HGz16
          have hfz16_1 := blk_frozen HGz16 1
          have hfz16_2 := blk_frozen HGz16 2
          have hfz16_3 := blk_frozen HGz16 3
          clear HGz16 hgz16
          go_wp2_with (first | ((with_reducible refine gate_callee (f := 55) rfl ?_); refine goesL_ (some 30) rfl rfl Try.func55 (by kernel_rfl) rfl #[.pointer (some ⟨g, 0, none⟩)] rfl (by (try simp only [List.map_toArray, List.map_cons, List.map_nil]); first | done | rfl | (simp only [List.length_drop, List.length_take]; rfl)) ?_; (with_reducible refine (say_parser_fail.calls g s0_0 s0_1 t179 t180 t183 t184 t185 w0 _ ?side1 ?side2 A12.out).mono ?_); (case side1 => repeat (first | (with_reducible first | exact HI0.out | apply IsS74.alloc | apply IsS74.drewN | apply IsS74.drew | apply IsS74.set_1 | apply IsS74.set_2 | apply IsS74.set_3) | exact HI0.out)); (case side2 => repeat (first | (with_reducible first | exact HB.out | apply below_alloc | apply pw_below_drewN | apply below_drew1 | refine below_set ?_ (IsS74.ge HI0.out)) | exact HB.out)); rintro e w17 ⟨rfl, hi, hb, hk⟩; refine ⟨_, rfl, ?_⟩; have n0_ := Aside0.mk (KeepBut.trans (by repeat (first | (with_reducible first | exact HK.out | apply KeepBut.set_ | apply keep_drewN | apply keep_drew | apply keep_alloc) | exact HK.out)) hk (.inl rfl)); have n1_ := Aside0.mk (hb); have n2_ := Aside0.mk (hi); clear HK; clear HB; clear HI0; have HK := n0_; have HB := n1_; have HI0 := n2_; clear n0_ n1_ n2_; (try clear hb); (try clear hb2); (try clear hk); (try clear hi)))
          go_ret
          exact ⟨by first | rfl | (simp [errW_none, errW_some] <;> rfl) | (simp [*, errW_none, errW_some] <;> rfl), by repeat (first | (with_reducible first | exact HI0.out | apply IsS74.alloc | apply IsS74.drewN | apply IsS74.drew | apply IsS74.set_1 | apply IsS74.set_2 | apply IsS74.set_3) | exact HI0.out), by repeat (first | (with_reducible first | exact HB.out | apply below_alloc | apply pw_below_drewN | apply below_drew1 | refine below_set ?_ (IsS74.ge HI0.out)) | exact HB.out), by repeat (first | (with_reducible first | exact HK.out | apply KeepBut.set_ | apply keep_drewN | apply keep_drew | apply keep_alloc) | exact HK.out)⟩
      · replace c11 := Bool.eq_false_iff.mpr c11
        subst c11
        have H1 : (if t182 = true then (some (t181, t178, t179, t180)) else (some (0, t178, t179, t180))) = some (r1, r2, r3, r4) := by rw [if_neg (show ¬ (false = true) by decide)] at H; exact H
        clear H
        have H := H1
        clear H1
        by_cases c18 : t182 = true
        · subst c18
          have H1 : (some (t181, t178, t179, t180)) = some (r1, r2, r3, r4) := by rw [if_pos rfl] at H; exact H
          clear H
          have H := H1
          clear H1
          simp only [Option.some.injEq, Prod.mk.injEq] at H
          obtain ⟨rfl, rfl, rfl, rfl⟩ := H
          go_wp2
          go_ret
          exact ⟨by first | rfl | (simp [errW_none, errW_some] <;> rfl) | (simp [*, errW_none, errW_some] <;> rfl), by repeat (first | (with_reducible first | exact HI0.out | apply IsS74.alloc | apply IsS74.drewN | apply IsS74.drew | apply IsS74.set_1 | apply IsS74.set_2 | apply IsS74.set_3) | exact HI0.out), by repeat (first | (with_reducible first | exact HB.out | apply below_alloc | apply pw_below_drewN | apply below_drew1 | refine below_set ?_ (IsS74.ge HI0.out)) | exact HB.out), by repeat (first | (with_reducible first | exact HK.out | apply KeepBut.set_ | apply keep_drewN | apply keep_drew | apply keep_alloc) | exact HK.out)⟩
        · replace c18 := Bool.eq_false_iff.mpr c18
          subst c18
          have H1 : (some (0, t178, t179, t180)) = some (r1, r2, r3, r4) := by rw [if_neg (show ¬ (false = true) by decide)] at H; exact H
          clear H
          have H := H1
          clear H1
          simp only [Option.some.injEq, Prod.mk.injEq] at H
          obtain ⟨rfl, rfl, rfl, rfl⟩ := H
          go_wp2
          go_ret
          exact ⟨by first | rfl | (simp [errW_none, errW_some] <;> rfl) | (simp [*, errW_none, errW_some] <;> rfl), by repeat (first | (with_reducible first | exact HI0.out | apply IsS74.alloc | apply IsS74.drewN | apply IsS74.drew | apply IsS74.set_1 | apply IsS74.set_2 | apply IsS74.set_3) | exact HI0.out), by repeat (first | (with_reducible first | exact HB.out | apply below_alloc | apply pw_below_drewN | apply below_drew1 | refine below_set ?_ (IsS74.ge HI0.out)) | exact HB.out), by repeat (first | (with_reducible first | exact HK.out | apply KeepBut.set_ | apply keep_drewN | apply keep_drew | apply keep_alloc) | exact HK.out)⟩

end Go.Proofs.Ytokkjnfdfbpphaa.A
namespace Go.Proofs.Ytokkjnfdfbpphaa.A
open Go.RowKit Go.Proofs.YtokkjnfdfbpphaaW.PrintWords Go.Proofs.YtokkjnfdfbpphaaW.PrintLast Go.Proofs.YtokkjnfdfbpphaaW.PrintMore
attribute [local go_sem] max2_int min2_int max_two min_two max_three min_three max_four min_four   -- for this text's walks alone
set_option linter.unusedVariables false
set_option linter.unusedSimpArgs false

/-! ### say_nibble: function 77 -/
def say_nibble.f (a0 : Int) : Option (Int) := (say_digit.f a0).bind fun t186 => (if t186 = true then (some ((a0 - 48) % 256)) else (if a0 ≥ 97 then (if a0 ≤ 102 then (some (((a0 - 97) % 256) + 10)) else (some (-1))) else (some (-1))))
set_option maxHeartbeats 8000000 in
set_option maxRecDepth 100000 in
theorem say_nibble.calls (a0 : Int) (r : Int) (w : World) (h : say_nibble.f a0 = some r) :
    Calls Try.prog 77 #[.int .u8 a0] w fun e w' => e = .returned (.int .i64 r) ∧ Drawn0 w w' := by
  have H : ((say_digit.f a0).bind fun t186 => (if t186 = true then (some ((a0 - 48) % 256)) else (if a0 ≥ 97 then (if a0 ≤ 102 then (some (((a0 - 97) % 256) + 10)) else (some (-1))) else (some (-1))))) = some r := h
  clear h
  replace H := Option.bind_eq_some_iff.mp H
  obtain ⟨t186, A20, H⟩ := H
  replace H : (if t186 = true then (some ((a0 - 48) % 256)) else (if a0 ≥ 97 then (if a0 ≤ 102 then (some (((a0 - 97) % 256) + 10)) else (some (-1))) else (some (-1)))) = some r := H
  have A2 := Aside0.mk A20
  clear A20
  by_cases c3 : t186 = true
  · subst c3
    have H1 : (some ((a0 - 48) % 256)) = some r := by rw [if_pos rfl] at H; exact H
    clear H
    have H := H1
    clear H1
    obtain rfl := Option.some.inj H
    go_enter Try.func77, Try.ntmps77
    go_wp2_with (first | ((with_reducible refine gate_callee (f := 51) rfl ?_); refine goesL_ (some 5) rfl rfl Try.func51 (by kernel_rfl) rfl #[.int .u8 a0] rfl (by (try simp only [List.map_toArray, List.map_cons, List.map_nil]); first | done | rfl | (simp only [List.length_drop, List.length_take]; rfl)) ?_; (with_reducible refine (say_digit.calls a0 true _ A2.out).mono ?_); rintro e w' ⟨rfl, ⟨nd, rfl⟩⟩; refine ⟨_, rfl, ?_⟩))
    go_ret
    exact ⟨by first | rfl | (simp; done) | (simp [*]; done), by repeat (first | exact Drawn0.refl _ | apply Drawn0.step)⟩
  · replace c3 := Bool.eq_false_iff.mpr c3
    subst c3
    have H1 : (if a0 ≥ 97 then (if a0 ≤ 102 then (some (((a0 - 97) % 256) + 10)) else (some (-1))) else (some (-1))) = some r := by rw [if_neg (show ¬ (false = true) by decide)] at H; exact H
    clear H
    have H := H1
    clear H1
    by_cases c4 : a0 ≥ 97
    · rw [if_pos c4] at H
      have c4b0 : decide (97 ≤ a0) = true := decide_eq_true c4
      clear c4
      by_cases c5 : a0 ≤ 102
      · rw [if_pos c5] at H
        have c5b0 : decide (a0 ≤ 102) = true := decide_eq_true c5
        clear c5
        obtain rfl := Option.some.inj H
        go_enter Try.func77, Try.ntmps77
        go_wp2_with (first | ((with_reducible refine gate_callee (f := 51) rfl ?_); refine goesL_ (some 5) rfl rfl Try.func51 (by kernel_rfl) rfl #[.int .u8 a0] rfl (by (try simp only [List.map_toArray, List.map_cons, List.map_nil]); first | done | rfl | (simp only [List.length_drop, List.length_take]; rfl)) ?_; (with_reducible refine (say_digit.calls a0 false _ A2.out).mono ?_); rintro e w' ⟨rfl, ⟨nd, rfl⟩⟩; refine ⟨_, rfl, ?_⟩))
        go_ret
        exact ⟨by first | rfl | (simp; done) | (simp [*]; done), by repeat (first | exact Drawn0.refl _ | apply Drawn0.step)⟩
      · rw [if_neg c5] at H
        have c5b0 : decide (a0 ≤ 102) = false := decide_eq_false c5
        clear c5
        obtain rfl := Option.some.inj H
        go_enter Try.func77, Try.ntmps77
        go_wp2_with (first | ((with_reducible refine gate_callee (f := 51) rfl ?_); refine goesL_ (some 5) rfl rfl Try.func51 (by kernel_rfl) rfl #[.int .u8 a0] rfl (by (try simp only [List.map_toArray, List.map_cons, List.map_nil]); first | done | rfl | (simp only [List.length_drop, List.length_take]; rfl)) ?_; (with_reducible refine (say_digit.calls a0 false _ A2.out).mono ?_); rintro e w' ⟨rfl, ⟨nd, rfl⟩⟩; refine ⟨_, rfl, ?_⟩))
        go_ret
        exact ⟨by first | rfl | (simp; done) | (simp [*]; done), by repeat (first | exact Drawn0.refl _ | apply Drawn0.step)⟩
    · rw [if_neg c4] at H
      have c4b0 : decide (97 ≤ a0) = false := decide_eq_false c4
      clear c4
      obtain rfl := Option.some.inj H
      go_enter Try.func77, Try.ntmps77
      go_wp2_with (first | ((with_reducible refine gate_callee (f := 51) rfl ?_); refine goesL_ (some 5) rfl rfl Try.func51 (by kernel_rfl) rfl #[.int .u8 a0] rfl (by (try simp only [List.map_toArray, List.map_cons, List.map_nil]); first | done | rfl | (simp only [List.length_drop, List.length_take]; rfl)) ?_; (with_reducible refine (say_digit.calls a0 false _ A2.out).mono ?_); rintro e w' ⟨rfl, ⟨nd, rfl⟩⟩; refine ⟨_, rfl, ?_⟩))
      go_ret
      exact ⟨by first | rfl | (simp; done) | (simp [*]; done), by repeat (first | exact Drawn0.refl _ | apply Drawn0.step)⟩

end Go.Proofs.Ytokkjnfdfbpphaa.A
