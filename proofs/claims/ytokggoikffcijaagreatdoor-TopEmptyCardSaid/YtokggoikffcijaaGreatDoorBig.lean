/-
  The zero values of the great types: told as a run of equal cells (written by a program of this workplace: big.py).
-/
import Derived.Test.YtokggoikffcijaaGreatDoorTy
namespace Go.Proofs.YtokggoikffcijaaGreatDoor
open Go Go.SL
theorem rep_app (a b : Nat) (z : Value) {x y : List Value} (hx : x = List.replicate a z) (hy : y = List.replicate b z) : List.append x y = List.replicate (a + b) z := by subst hx hy; exact List.replicate_append_replicate
theorem rep_appL (a b : Nat) (z : Value) (p : List Value) {x y : List Value} (hx : x = p ++ List.replicate a z) (hy : y = List.replicate b z) : List.append x y = p ++ List.replicate (a + b) z := by subst hx hy; show (p ++ _) ++ _ = _; rw [List.append_assoc, List.replicate_append_replicate]
theorem rep_appR (a b : Nat) (z : Value) (s : List Value) {x y : List Value} (hx : x = List.replicate a z) (hy : y = List.replicate b z ++ s) : List.append x y = List.replicate (a + b) z ++ s := by subst hx hy; show _ ++ (_ ++ s) = _; rw [← List.append_assoc, List.replicate_append_replicate]
theorem rep_appLR (a b : Nat) (z : Value) (p s : List Value) {x y : List Value} (hx : x = p ++ List.replicate a z) (hy : y = List.replicate b z ++ s) : List.append x y = p ++ (List.replicate (a + b) z ++ s) := by subst hx hy; show (p ++ _) ++ (_ ++ s) = _; rw [List.append_assoc, ← List.append_assoc (List.replicate a z), List.replicate_append_replicate]
def zb0 : List Value := List.replicate 64 (.int .u8 0)
theorem zb0_eq : zb0 = List.replicate 64 (.int .u8 0) := rfl
def zb1 : List Value := List.append zb0 zb0
theorem zb1_eq : zb1 = List.replicate 128 (.int .u8 0) := rep_app 64 64 (.int .u8 0) zb0_eq zb0_eq
def zb2 : List Value := List.append zb1 zb1
theorem zb2_eq : zb2 = List.replicate 256 (.int .u8 0) := rep_app 128 128 (.int .u8 0) zb1_eq zb1_eq
def zb3 : List Value := List.append zb2 zb2
theorem zb3_eq : zb3 = List.replicate 512 (.int .u8 0) := rep_app 256 256 (.int .u8 0) zb2_eq zb2_eq
def zb4 : List Value := List.append zb3 zb3
theorem zb4_eq : zb4 = List.replicate 1024 (.int .u8 0) := rep_app 512 512 (.int .u8 0) zb3_eq zb3_eq
def zb5 : List Value := List.append zb4 zb4
theorem zb5_eq : zb5 = List.replicate 2048 (.int .u8 0) := rep_app 1024 1024 (.int .u8 0) zb4_eq zb4_eq
def zb6 : List Value := List.append zb5 zb5
theorem zb6_eq : zb6 = List.replicate 4096 (.int .u8 0) := rep_app 2048 2048 (.int .u8 0) zb5_eq zb5_eq
def zb7 : List Value := List.append zb6 zb6
theorem zb7_eq : zb7 = List.replicate 8192 (.int .u8 0) := rep_app 4096 4096 (.int .u8 0) zb6_eq zb6_eq
def zb8 : List Value := List.append zb7 zb7
theorem zb8_eq : zb8 = List.replicate 16384 (.int .u8 0) := rep_app 8192 8192 (.int .u8 0) zb7_eq zb7_eq
def zb9 : List Value := List.append zb8 zb8
theorem zb9_eq : zb9 = List.replicate 32768 (.int .u8 0) := rep_app 16384 16384 (.int .u8 0) zb8_eq zb8_eq
def zb10 : List Value := List.append zb9 zb9
theorem zb10_eq : zb10 = List.replicate 65536 (.int .u8 0) := rep_app 32768 32768 (.int .u8 0) zb9_eq zb9_eq
theorem I257 : Inf Tryz.prog 257 65536 65536 (.agg zb10.toArray) := Inf.of (by kernel_rfl)
theorem Z257 : zb10 = List.replicate 65536 (.int .u8 0) := zb10_eq
abbrev zero257 : List Value := zb10
def zb11 : List Value := [(.pointer none), (.pointer none)] ++ List.replicate 62 (.int .u8 0)
theorem zb11_eq : zb11 = [(.pointer none), (.pointer none)] ++ List.replicate 62 (.int .u8 0) := rfl
def zb12 : List Value := List.append zb11 zb0
theorem zb12_eq : zb12 = [(.pointer none), (.pointer none)] ++ List.replicate 126 (.int .u8 0) := rep_appL 62 64 (.int .u8 0) [(.pointer none), (.pointer none)] zb11_eq zb0_eq
def zb13 : List Value := List.append zb12 zb1
theorem zb13_eq : zb13 = [(.pointer none), (.pointer none)] ++ List.replicate 254 (.int .u8 0) := rep_appL 126 128 (.int .u8 0) [(.pointer none), (.pointer none)] zb12_eq zb1_eq
def zb14 : List Value := List.append zb13 zb2
theorem zb14_eq : zb14 = [(.pointer none), (.pointer none)] ++ List.replicate 510 (.int .u8 0) := rep_appL 254 256 (.int .u8 0) [(.pointer none), (.pointer none)] zb13_eq zb2_eq
def zb15 : List Value := List.append zb14 zb3
theorem zb15_eq : zb15 = [(.pointer none), (.pointer none)] ++ List.replicate 1022 (.int .u8 0) := rep_appL 510 512 (.int .u8 0) [(.pointer none), (.pointer none)] zb14_eq zb3_eq
def zb16 : List Value := List.append zb15 zb4
theorem zb16_eq : zb16 = [(.pointer none), (.pointer none)] ++ List.replicate 2046 (.int .u8 0) := rep_appL 1022 1024 (.int .u8 0) [(.pointer none), (.pointer none)] zb15_eq zb4_eq
def zb17 : List Value := List.append zb16 zb5
theorem zb17_eq : zb17 = [(.pointer none), (.pointer none)] ++ List.replicate 4094 (.int .u8 0) := rep_appL 2046 2048 (.int .u8 0) [(.pointer none), (.pointer none)] zb16_eq zb5_eq
def zb18 : List Value := List.append zb17 zb6
theorem zb18_eq : zb18 = [(.pointer none), (.pointer none)] ++ List.replicate 8190 (.int .u8 0) := rep_appL 4094 4096 (.int .u8 0) [(.pointer none), (.pointer none)] zb17_eq zb6_eq
def zb19 : List Value := List.replicate 32 (.int .u8 0)
theorem zb19_eq : zb19 = List.replicate 32 (.int .u8 0) := rfl
def zb20 : List Value := List.replicate 33 (.int .u8 0)
theorem zb20_eq : zb20 = List.replicate 33 (.int .u8 0) := rfl
def zb21 : List Value := List.append zb19 zb20
theorem zb21_eq : zb21 = List.replicate 65 (.int .u8 0) := rep_app 32 33 (.int .u8 0) zb19_eq zb20_eq
def zb22 : List Value := List.append zb0 zb21
theorem zb22_eq : zb22 = List.replicate 129 (.int .u8 0) := rep_app 64 65 (.int .u8 0) zb0_eq zb21_eq
def zb23 : List Value := List.append zb1 zb22
theorem zb23_eq : zb23 = List.replicate 257 (.int .u8 0) := rep_app 128 129 (.int .u8 0) zb1_eq zb22_eq
def zb24 : List Value := List.append zb2 zb23
theorem zb24_eq : zb24 = List.replicate 513 (.int .u8 0) := rep_app 256 257 (.int .u8 0) zb2_eq zb23_eq
def zb25 : List Value := List.append zb3 zb24
theorem zb25_eq : zb25 = List.replicate 1025 (.int .u8 0) := rep_app 512 513 (.int .u8 0) zb3_eq zb24_eq
def zb26 : List Value := List.append zb4 zb25
theorem zb26_eq : zb26 = List.replicate 2049 (.int .u8 0) := rep_app 1024 1025 (.int .u8 0) zb4_eq zb25_eq
def zb27 : List Value := List.append zb5 zb26
theorem zb27_eq : zb27 = List.replicate 4097 (.int .u8 0) := rep_app 2048 2049 (.int .u8 0) zb5_eq zb26_eq
def zb28 : List Value := List.append zb6 zb27
theorem zb28_eq : zb28 = List.replicate 8193 (.int .u8 0) := rep_app 4096 4097 (.int .u8 0) zb6_eq zb27_eq
def zb29 : List Value := List.append zb18 zb28
theorem zb29_eq : zb29 = [(.pointer none), (.pointer none)] ++ List.replicate 16383 (.int .u8 0) := rep_appL 8190 8193 (.int .u8 0) [(.pointer none), (.pointer none)] zb18_eq zb28_eq
def zb30 : List Value := List.append zb28 zb28
theorem zb30_eq : zb30 = List.replicate 16386 (.int .u8 0) := rep_app 8193 8193 (.int .u8 0) zb28_eq zb28_eq
def zb31 : List Value := List.append zb29 zb30
theorem zb31_eq : zb31 = [(.pointer none), (.pointer none)] ++ List.replicate 32769 (.int .u8 0) := rep_appL 16383 16386 (.int .u8 0) [(.pointer none), (.pointer none)] zb29_eq zb30_eq
def zb32 : List Value := List.replicate 28 (.int .u8 0) ++ [(.int .i64 0), (.int .i64 0), (.int .i64 0), (.slice none 0 0), (.bool false)]
theorem zb32_eq : zb32 = List.replicate 28 (.int .u8 0) ++ [(.int .i64 0), (.int .i64 0), (.int .i64 0), (.slice none 0 0), (.bool false)] := rfl
def zb33 : List Value := List.append zb19 zb32
theorem zb33_eq : zb33 = List.replicate 60 (.int .u8 0) ++ [(.int .i64 0), (.int .i64 0), (.int .i64 0), (.slice none 0 0), (.bool false)] := rep_appR 32 28 (.int .u8 0) [(.int .i64 0), (.int .i64 0), (.int .i64 0), (.slice none 0 0), (.bool false)] zb19_eq zb32_eq
def zb34 : List Value := List.append zb0 zb33
theorem zb34_eq : zb34 = List.replicate 124 (.int .u8 0) ++ [(.int .i64 0), (.int .i64 0), (.int .i64 0), (.slice none 0 0), (.bool false)] := rep_appR 64 60 (.int .u8 0) [(.int .i64 0), (.int .i64 0), (.int .i64 0), (.slice none 0 0), (.bool false)] zb0_eq zb33_eq
def zb35 : List Value := List.append zb1 zb34
theorem zb35_eq : zb35 = List.replicate 252 (.int .u8 0) ++ [(.int .i64 0), (.int .i64 0), (.int .i64 0), (.slice none 0 0), (.bool false)] := rep_appR 128 124 (.int .u8 0) [(.int .i64 0), (.int .i64 0), (.int .i64 0), (.slice none 0 0), (.bool false)] zb1_eq zb34_eq
def zb36 : List Value := List.append zb2 zb35
theorem zb36_eq : zb36 = List.replicate 508 (.int .u8 0) ++ [(.int .i64 0), (.int .i64 0), (.int .i64 0), (.slice none 0 0), (.bool false)] := rep_appR 256 252 (.int .u8 0) [(.int .i64 0), (.int .i64 0), (.int .i64 0), (.slice none 0 0), (.bool false)] zb2_eq zb35_eq
def zb37 : List Value := List.append zb3 zb36
theorem zb37_eq : zb37 = List.replicate 1020 (.int .u8 0) ++ [(.int .i64 0), (.int .i64 0), (.int .i64 0), (.slice none 0 0), (.bool false)] := rep_appR 512 508 (.int .u8 0) [(.int .i64 0), (.int .i64 0), (.int .i64 0), (.slice none 0 0), (.bool false)] zb3_eq zb36_eq
def zb38 : List Value := List.append zb4 zb37
theorem zb38_eq : zb38 = List.replicate 2044 (.int .u8 0) ++ [(.int .i64 0), (.int .i64 0), (.int .i64 0), (.slice none 0 0), (.bool false)] := rep_appR 1024 1020 (.int .u8 0) [(.int .i64 0), (.int .i64 0), (.int .i64 0), (.slice none 0 0), (.bool false)] zb4_eq zb37_eq
def zb39 : List Value := List.append zb5 zb38
theorem zb39_eq : zb39 = List.replicate 4092 (.int .u8 0) ++ [(.int .i64 0), (.int .i64 0), (.int .i64 0), (.slice none 0 0), (.bool false)] := rep_appR 2048 2044 (.int .u8 0) [(.int .i64 0), (.int .i64 0), (.int .i64 0), (.slice none 0 0), (.bool false)] zb5_eq zb38_eq
def zb40 : List Value := List.append zb6 zb39
theorem zb40_eq : zb40 = List.replicate 8188 (.int .u8 0) ++ [(.int .i64 0), (.int .i64 0), (.int .i64 0), (.slice none 0 0), (.bool false)] := rep_appR 4096 4092 (.int .u8 0) [(.int .i64 0), (.int .i64 0), (.int .i64 0), (.slice none 0 0), (.bool false)] zb6_eq zb39_eq
def zb41 : List Value := List.append zb28 zb40
theorem zb41_eq : zb41 = List.replicate 16381 (.int .u8 0) ++ [(.int .i64 0), (.int .i64 0), (.int .i64 0), (.slice none 0 0), (.bool false)] := rep_appR 8193 8188 (.int .u8 0) [(.int .i64 0), (.int .i64 0), (.int .i64 0), (.slice none 0 0), (.bool false)] zb28_eq zb40_eq
def zb42 : List Value := List.append zb30 zb41
theorem zb42_eq : zb42 = List.replicate 32767 (.int .u8 0) ++ [(.int .i64 0), (.int .i64 0), (.int .i64 0), (.slice none 0 0), (.bool false)] := rep_appR 16386 16381 (.int .u8 0) [(.int .i64 0), (.int .i64 0), (.int .i64 0), (.slice none 0 0), (.bool false)] zb30_eq zb41_eq
def zb43 : List Value := List.append zb31 zb42
theorem zb43_eq : zb43 = [(.pointer none), (.pointer none)] ++ (List.replicate 65536 (.int .u8 0) ++ [(.int .i64 0), (.int .i64 0), (.int .i64 0), (.slice none 0 0), (.bool false)]) := rep_appLR 32769 32767 (.int .u8 0) [(.pointer none), (.pointer none)] [(.int .i64 0), (.int .i64 0), (.int .i64 0), (.slice none 0 0), (.bool false)] zb31_eq zb42_eq
theorem I258 : Inf Tryz.prog 258 65543 65608 (.agg zb43.toArray) := Inf.of (by kernel_rfl)
theorem Z258 : zb43 = [(.pointer none), (.pointer none)] ++ (List.replicate 65536 (.int .u8 0) ++ [(.int .i64 0), (.int .i64 0), (.int .i64 0), (.slice none 0 0), (.bool false)]) := zb43_eq
abbrev zero258 : List Value := zb43
theorem I259 : Inf Tryz.prog 259 65543 65608 (.agg zb43.toArray) := Inf.of (by kernel_rfl)
theorem Z259 : zb43 = [(.pointer none), (.pointer none)] ++ (List.replicate 65536 (.int .u8 0) ++ [(.int .i64 0), (.int .i64 0), (.int .i64 0), (.slice none 0 0), (.bool false)]) := zb43_eq
abbrev zero259 : List Value := zb43
theorem B258 : Places Tryz.prog 258 [(0, 1), (1, 1), (2, 65536), (65538, 1), (65539, 1), (65540, 1), (65541, 1), (65542, 1)] := by intro fs h w; rw [Tryz.underlying258] at h; cases h; simp [I2.run_size, I4.run_size, I39.run_size, I45.run_size, I252.run_size, I257.run_size]
theorem B259 : Places Tryz.prog 259 [(0, 1), (1, 1), (2, 65536), (65538, 1), (65539, 1), (65540, 1), (65541, 1), (65542, 1)] := by intro fs h w; rw [Tryz.underlying259] at h; cases h; simp [I2.run_size, I4.run_size, I39.run_size, I45.run_size, I252.run_size, I257.run_size]
end Go.Proofs.YtokggoikffcijaaGreatDoor
