/- The row and the card of one law, for every input that it speaks of. -/
import Derived.Test.YtdbpdcnpolaojaaDoorJ3
import Derived.Test.YtdbpdcnpolaojaaDoorProg
import Derived.Test.YtdbpdcnpolaojaaDoorJ7
set_option linter.all false
set_option linter.unusedVariables false
set_option linter.unusedSimpArgs false
namespace Go.Sym
open Go
def tyOf_0 : List (Option TyI) := [none,
  some { size := 1, bytes := 8, agg := false, cmp := false, tk := .other, zero := [.lit .nilFunc] },
  some { size := 1, bytes := 8, agg := false, cmp := false, tk := .int .i64, zero := [.int .i64 0] },
  some { size := 1, bytes := 8, agg := false, cmp := false, tk := .int .i64, zero := [.int .i64 0] },
  some { size := 1, bytes := 1, agg := false, cmp := false, tk := .bool, zero := [.bool false] },
  some { size := 1, bytes := 1, agg := false, cmp := false, tk := .int .u8, zero := [.int .u8 0] },
  some { size := 1, bytes := 1, agg := false, cmp := false, tk := .int .u8, zero := [.int .u8 0] },
  some { size := 4, bytes := 24, agg := true, cmp := false, tk := .struct [(0, 1, false), (1, 1, false), (2, 1, false), (3, 1, false)], zero := [.int .i64 0, .int .i64 0, .bool false, .int .u8 0] },
  some { size := 4, bytes := 24, agg := true, cmp := false, tk := .struct [(0, 1, false), (1, 1, false), (2, 1, false), (3, 1, false)], zero := [.int .i64 0, .int .i64 0, .bool false, .int .u8 0] },
  some { size := 1, bytes := 16, agg := false, cmp := false, tk := .str, zero := [.str ByteArray.empty] },
  some { size := 1, bytes := 16, agg := false, cmp := false, tk := .str, zero := [.str ByteArray.empty] },
  some { size := 1, bytes := 16, agg := false, cmp := false, tk := .str, zero := [.str ByteArray.empty] },
  some { size := 1, bytes := 8, agg := false, cmp := false, tk := .int .u64, zero := [.int .u64 0] },
  some { size := 2, bytes := 24, agg := true, cmp := false, tk := .struct [(0, 1, false), (1, 1, false)], zero := [.str ByteArray.empty, .int .u64 0] },
  some { size := 2, bytes := 24, agg := true, cmp := false, tk := .struct [(0, 1, false), (1, 1, false)], zero := [.str ByteArray.empty, .int .u64 0] },
  some { size := 1, bytes := 8, agg := false, cmp := false, tk := .other, zero := [.lit (.pointer none)] }]
def tyOf_1 : List (Option TyI) := [some { size := 1, bytes := 8, agg := false, cmp := false, tk := .other, zero := [.lit (.pointer none)] },
  some { size := 1, bytes := 8, agg := false, cmp := false, tk := .other, zero := [.lit (.pointer none)] },
  some { size := 1, bytes := 8, agg := true, cmp := false, tk := .struct [(0, 1, false)], zero := [.lit (.pointer none)] },
  some { size := 1, bytes := 8, agg := true, cmp := false, tk := .struct [(0, 1, false)], zero := [.lit (.pointer none)] },
  some { size := 1, bytes := 16, agg := false, cmp := false, tk := .other, zero := [.lit .nilIface] },
  some { size := 1, bytes := 4, agg := false, cmp := false, tk := .int .i32, zero := [.int .i32 0] },
  some { size := 1, bytes := 24, agg := false, cmp := false, tk := .slice 44, zero := [.nils] },
  some { size := 1, bytes := 24, agg := false, cmp := false, tk := .slice 31, zero := [.nils] },
  some { size := 1, bytes := 8, agg := false, cmp := false, tk := .other, zero := [.lit .nilFunc] },
  some { size := 1, bytes := 8, agg := false, cmp := false, tk := .other, zero := [.lit .nilFunc] },
  some { size := 1, bytes := 24, agg := false, cmp := false, tk := .slice 40, zero := [.nils] },
  some { size := 1, bytes := 8, agg := false, cmp := false, tk := .other, zero := [.lit .nilFunc] },
  some { size := 1, bytes := 24, agg := false, cmp := false, tk := .slice 50, zero := [.nils] },
  some { size := 1, bytes := 24, agg := false, cmp := false, tk := .slice 50, zero := [.nils] },
  some { size := 11, bytes := 184, agg := true, cmp := false, tk := .struct [(0, 1, false), (1, 1, false), (2, 1, false), (3, 1, false), (4, 1, false), (5, 1, false), (6, 1, false), (7, 1, false), (8, 1, false), (9, 1, false), (10, 1, false)], zero := [.int .i64 0, .str ByteArray.empty, .str ByteArray.empty, .nils, .nils, .bool false, .int .i64 0, .int .i64 0, .nils, .nils, .nils] },
  some { size := 11, bytes := 184, agg := true, cmp := false, tk := .struct [(0, 1, false), (1, 1, false), (2, 1, false), (3, 1, false), (4, 1, false), (5, 1, false), (6, 1, false), (7, 1, false), (8, 1, false), (9, 1, false), (10, 1, false)], zero := [.int .i64 0, .str ByteArray.empty, .str ByteArray.empty, .nils, .nils, .bool false, .int .i64 0, .int .i64 0, .nils, .nils, .nils] }]
def tyOf_2 : List (Option TyI) := [some { size := 1, bytes := 8, agg := false, cmp := false, tk := .int .i64, zero := [.int .i64 0] },
  some { size := 1, bytes := 24, agg := false, cmp := false, tk := .slice 148, zero := [.nils] },
  some { size := 8, bytes := 128, agg := true, cmp := false, tk := .struct [(0, 1, false), (1, 1, false), (2, 1, false), (3, 1, false), (4, 1, false), (5, 1, false), (6, 1, false), (7, 1, false)], zero := [.int .i64 0, .bool false, .nils, .nils, .nils, .int .i64 0, .int .i64 0, .nils] },
  some { size := 8, bytes := 128, agg := true, cmp := false, tk := .struct [(0, 1, false), (1, 1, false), (2, 1, false), (3, 1, false), (4, 1, false), (5, 1, false), (6, 1, false), (7, 1, false)], zero := [.int .i64 0, .bool false, .nils, .nils, .nils, .int .i64 0, .int .i64 0, .nils] },
  none,
  some { size := 1, bytes := 8, agg := false, cmp := false, tk := .other, zero := [.lit .nilFunc] },
  some { size := 1, bytes := 8, agg := false, cmp := false, tk := .other, zero := [.lit .nilFunc] },
  some { size := 4, bytes := 56, agg := true, cmp := false, tk := .struct [(0, 1, false), (1, 1, false), (2, 1, false), (3, 1, false)], zero := [.int .i64 0, .str ByteArray.empty, .bool false, .nils] },
  some { size := 4, bytes := 56, agg := true, cmp := false, tk := .struct [(0, 1, false), (1, 1, false), (2, 1, false), (3, 1, false)], zero := [.int .i64 0, .str ByteArray.empty, .bool false, .nils] },
  some { size := 1, bytes := 8, agg := false, cmp := false, tk := .other, zero := [.lit .nilFunc] },
  some { size := 1, bytes := 8, agg := false, cmp := false, tk := .other, zero := [.lit .nilFunc] },
  some { size := 2, bytes := 40, agg := true, cmp := false, tk := .struct [(0, 1, false), (1, 1, false)], zero := [.str ByteArray.empty, .nils] },
  some { size := 2, bytes := 40, agg := true, cmp := false, tk := .struct [(0, 1, false), (1, 1, false)], zero := [.str ByteArray.empty, .nils] },
  some { size := 2, bytes := 16, agg := true, cmp := true, tk := .struct [(0, 1, false), (1, 1, false)], zero := [.int .i64 0, .int .i64 0] },
  some { size := 2, bytes := 16, agg := true, cmp := true, tk := .struct [(0, 1, false), (1, 1, false)], zero := [.int .i64 0, .int .i64 0] },
  some { size := 5, bytes := 48, agg := true, cmp := true, tk := .struct [(0, 1, false), (1, 1, false), (2, 1, false), (3, 2, true)], zero := [.int .i64 0, .int .i64 0, .str ByteArray.empty, .int .i64 0, .int .i64 0] }]
def tyOf_3 : List (Option TyI) := [some { size := 5, bytes := 48, agg := true, cmp := true, tk := .struct [(0, 1, false), (1, 1, false), (2, 1, false), (3, 2, true)], zero := [.int .i64 0, .int .i64 0, .str ByteArray.empty, .int .i64 0, .int .i64 0] },
  some { size := 6, bytes := 64, agg := true, cmp := true, tk := .struct [(0, 1, false), (1, 5, true)], zero := [.str ByteArray.empty, .int .i64 0, .int .i64 0, .str ByteArray.empty, .int .i64 0, .int .i64 0] },
  some { size := 6, bytes := 64, agg := true, cmp := true, tk := .struct [(0, 1, false), (1, 5, true)], zero := [.str ByteArray.empty, .int .i64 0, .int .i64 0, .str ByteArray.empty, .int .i64 0, .int .i64 0] },
  some { size := 1, bytes := 8, agg := false, cmp := false, tk := .other, zero := [.lit .nilFunc] },
  some { size := 1, bytes := 8, agg := false, cmp := false, tk := .other, zero := [.lit .nilFunc] },
  none,
  some { size := 1, bytes := 8, agg := false, cmp := false, tk := .other, zero := [.lit .nilFunc] },
  some { size := 1, bytes := 8, agg := false, cmp := false, tk := .other, zero := [.lit .nilFunc] },
  some { size := 1, bytes := 8, agg := false, cmp := false, tk := .other, zero := [.lit .nilFunc] },
  some { size := 1, bytes := 8, agg := false, cmp := false, tk := .other, zero := [.lit .nilFunc] },
  some { size := 1, bytes := 8, agg := false, cmp := false, tk := .other, zero := [.lit .nilFunc] },
  some { size := 1, bytes := 8, agg := false, cmp := false, tk := .other, zero := [.lit .nilFunc] },
  some { size := 1, bytes := 8, agg := false, cmp := false, tk := .other, zero := [.lit .nilFunc] },
  none,
  some { size := 1, bytes := 8, agg := false, cmp := false, tk := .other, zero := [.lit .nilFunc] },
  some { size := 1, bytes := 8, agg := false, cmp := false, tk := .other, zero := [.lit .nilFunc] }]
def tyOf_4 : List (Option TyI) := [some { size := 1, bytes := 8, agg := false, cmp := false, tk := .other, zero := [.lit .nilFunc] },
  some { size := 1, bytes := 8, agg := false, cmp := false, tk := .other, zero := [.lit .nilFunc] },
  some { size := 1, bytes := 8, agg := false, cmp := false, tk := .other, zero := [.lit .nilFunc] },
  none,
  some { size := 1, bytes := 8, agg := false, cmp := false, tk := .other, zero := [.lit .nilFunc] },
  some { size := 1, bytes := 8, agg := false, cmp := false, tk := .other, zero := [.lit .nilFunc] },
  some { size := 1, bytes := 8, agg := false, cmp := false, tk := .other, zero := [.lit .nilFunc] },
  some { size := 1, bytes := 8, agg := false, cmp := false, tk := .other, zero := [.lit .nilFunc] },
  some { size := 1, bytes := 8, agg := false, cmp := false, tk := .other, zero := [.lit .nilFunc] },
  some { size := 1, bytes := 8, agg := false, cmp := false, tk := .other, zero := [.lit .nilFunc] },
  some { size := 1, bytes := 8, agg := false, cmp := false, tk := .other, zero := [.lit .nilFunc] },
  some { size := 1, bytes := 8, agg := false, cmp := false, tk := .other, zero := [.lit .nilFunc] },
  some { size := 1, bytes := 8, agg := false, cmp := false, tk := .int .u64, zero := [.int .u64 0] },
  some { size := 1, bytes := 24, agg := false, cmp := false, tk := .slice 79, zero := [.nils] },
  some { size := 4, bytes := 56, agg := true, cmp := false, tk := .struct [(0, 1, false), (1, 1, false), (2, 1, false), (3, 1, false)], zero := [.int .i64 0, .int .i64 0, .str ByteArray.empty, .nils] },
  some { size := 4, bytes := 56, agg := true, cmp := false, tk := .struct [(0, 1, false), (1, 1, false), (2, 1, false), (3, 1, false)], zero := [.int .i64 0, .int .i64 0, .str ByteArray.empty, .nils] }]
def tyOf_5 : List (Option TyI) := [none,
  some { size := 1, bytes := 8, agg := false, cmp := false, tk := .other, zero := [.lit .nilFunc] },
  some { size := 1, bytes := 24, agg := false, cmp := false, tk := .slice 5, zero := [.nils] },
  none,
  some { size := 1, bytes := 8, agg := false, cmp := false, tk := .other, zero := [.lit .nilFunc] },
  some { size := 1, bytes := 8, agg := false, cmp := false, tk := .other, zero := [.lit .nilFunc] },
  some { size := 1, bytes := 8, agg := false, cmp := false, tk := .other, zero := [.lit .nilFunc] },
  some { size := 1, bytes := 24, agg := false, cmp := false, tk := .slice 9, zero := [.nils] },
  some { size := 1, bytes := 8, agg := false, cmp := false, tk := .other, zero := [.lit .nilFunc] },
  some { size := 1, bytes := 8, agg := false, cmp := false, tk := .other, zero := [.lit .nilFunc] },
  some { size := 1, bytes := 8, agg := false, cmp := false, tk := .other, zero := [.lit .nilFunc] },
  some { size := 1, bytes := 8, agg := false, cmp := false, tk := .other, zero := [.lit .nilFunc] },
  some { size := 1, bytes := 8, agg := false, cmp := false, tk := .other, zero := [.lit .nilFunc] },
  some { size := 1, bytes := 8, agg := false, cmp := false, tk := .other, zero := [.lit .nilFunc] },
  some { size := 1, bytes := 8, agg := false, cmp := false, tk := .other, zero := [.lit .nilFunc] },
  some { size := 1, bytes := 8, agg := false, cmp := false, tk := .other, zero := [.lit .nilFunc] }]
def tyOf_6 : List (Option TyI) := [some { size := 1, bytes := 8, agg := false, cmp := false, tk := .other, zero := [.lit .nilFunc] },
  some { size := 1, bytes := 8, agg := false, cmp := false, tk := .other, zero := [.lit .nilFunc] },
  some { size := 1, bytes := 8, agg := false, cmp := false, tk := .other, zero := [.lit .nilFunc] },
  some { size := 1, bytes := 8, agg := false, cmp := false, tk := .other, zero := [.lit .nilFunc] },
  some { size := 1, bytes := 8, agg := false, cmp := false, tk := .other, zero := [.lit .nilFunc] },
  some { size := 1, bytes := 8, agg := false, cmp := false, tk := .other, zero := [.lit .nilFunc] },
  none,
  none,
  none,
  some { size := 1, bytes := 8, agg := false, cmp := false, tk := .other, zero := [.lit .nilFunc] },
  some { size := 1, bytes := 8, agg := false, cmp := false, tk := .other, zero := [.lit .nilFunc] },
  some { size := 1, bytes := 8, agg := false, cmp := false, tk := .other, zero := [.lit (.pointer none)] },
  some { size := 1, bytes := 8, agg := false, cmp := false, tk := .other, zero := [.lit .nilFunc] },
  some { size := 1, bytes := 8, agg := false, cmp := false, tk := .other, zero := [.lit .nilFunc] },
  some { size := 1, bytes := 8, agg := false, cmp := false, tk := .other, zero := [.lit .nilFunc] },
  some { size := 1, bytes := 8, agg := false, cmp := false, tk := .other, zero := [.lit .nilFunc] }]
def tyOf_7 : List (Option TyI) := [some { size := 1, bytes := 8, agg := false, cmp := false, tk := .other, zero := [.lit .nilFunc] },
  some { size := 1, bytes := 8, agg := false, cmp := false, tk := .other, zero := [.lit .nilFunc] },
  some { size := 1, bytes := 8, agg := false, cmp := false, tk := .other, zero := [.lit .nilFunc] },
  none,
  some { size := 1, bytes := 8, agg := false, cmp := false, tk := .other, zero := [.lit .nilFunc] },
  some { size := 1, bytes := 8, agg := false, cmp := false, tk := .other, zero := [.lit .nilFunc] },
  some { size := 1, bytes := 8, agg := false, cmp := false, tk := .other, zero := [.lit .nilFunc] },
  some { size := 1, bytes := 8, agg := false, cmp := false, tk := .other, zero := [.lit .nilFunc] },
  some { size := 1, bytes := 8, agg := false, cmp := false, tk := .other, zero := [.lit .nilFunc] },
  some { size := 1, bytes := 8, agg := false, cmp := false, tk := .other, zero := [.lit .nilFunc] },
  some { size := 1, bytes := 8, agg := false, cmp := false, tk := .other, zero := [.lit .nilFunc] },
  some { size := 1, bytes := 8, agg := false, cmp := false, tk := .other, zero := [.lit .nilFunc] },
  none,
  some { size := 2, bytes := 2, agg := true, cmp := true, tk := .struct [(0, 1, false), (1, 1, false)], zero := [.int .u8 0, .int .u8 0] },
  some { size := 2, bytes := 2, agg := true, cmp := true, tk := .struct [(0, 1, false), (1, 1, false)], zero := [.int .u8 0, .int .u8 0] },
  some { size := 32, bytes := 32, agg := true, cmp := false, tk := .array 16 126, zero := [.int .u8 0, .int .u8 0, .int .u8 0, .int .u8 0, .int .u8 0, .int .u8 0, .int .u8 0, .int .u8 0, .int .u8 0, .int .u8 0, .int .u8 0, .int .u8 0, .int .u8 0, .int .u8 0, .int .u8 0, .int .u8 0, .int .u8 0, .int .u8 0, .int .u8 0, .int .u8 0, .int .u8 0, .int .u8 0, .int .u8 0, .int .u8 0, .int .u8 0, .int .u8 0, .int .u8 0, .int .u8 0, .int .u8 0, .int .u8 0, .int .u8 0, .int .u8 0] }]
def tyOf_8 : List (Option TyI) := [some { size := 1, bytes := 8, agg := false, cmp := false, tk := .other, zero := [.lit .nilFunc] },
  some { size := 1, bytes := 4, agg := false, cmp := false, tk := .int .u32, zero := [.int .u32 0] },
  none,
  some { size := 1, bytes := 8, agg := false, cmp := false, tk := .other, zero := [.lit .nilFunc] },
  some { size := 1, bytes := 8, agg := false, cmp := false, tk := .other, zero := [.lit .nilFunc] },
  some { size := 4, bytes := 40, agg := true, cmp := false, tk := .struct [(0, 1, false), (1, 1, false), (2, 1, false), (3, 1, false)], zero := [.lit (.pointer none), .lit (.pointer none), .lit (.pointer none), .str ByteArray.empty] },
  some { size := 4, bytes := 40, agg := true, cmp := false, tk := .struct [(0, 1, false), (1, 1, false), (2, 1, false), (3, 1, false)], zero := [.lit (.pointer none), .lit (.pointer none), .lit (.pointer none), .str ByteArray.empty] },
  some { size := 0, bytes := 0, agg := true, cmp := false, tk := .array 0 16, zero := [] },
  some { size := 0, bytes := 0, agg := true, cmp := false, tk := .struct [(0, 0, true)], zero := [] },
  some { size := 0, bytes := 0, agg := true, cmp := false, tk := .struct [(0, 0, true)], zero := [] },
  some { size := 1, bytes := 8, agg := false, cmp := false, tk := .other, zero := [.lit .nilFunc] },
  some { size := 1, bytes := 1, agg := false, cmp := false, tk := .int .u8, zero := [.int .u8 0] },
  some { size := 1, bytes := 1, agg := false, cmp := false, tk := .int .u8, zero := [.int .u8 0] },
  some { size := 1, bytes := 8, agg := false, cmp := false, tk := .other, zero := [.lit .nilFunc] },
  some { size := 1, bytes := 8, agg := false, cmp := false, tk := .other, zero := [.lit (.pointer none)] },
  some { size := 1, bytes := 4, agg := false, cmp := false, tk := .int .i32, zero := [.int .i32 0] }]
def tyOf_9 : List (Option TyI) := [some { size := 1, bytes := 4, agg := false, cmp := false, tk := .int .i32, zero := [.int .i32 0] },
  some { size := 11, bytes := 48, agg := true, cmp := false, tk := .struct [(0, 1, false), (1, 1, false), (2, 1, false), (3, 1, false), (4, 1, false), (5, 1, false), (6, 1, false), (7, 1, false), (8, 1, false), (9, 1, false), (10, 1, false)], zero := [.int .u64 0, .int .u64 0, .int .u32 0, .int .u8 0, .int .u8 0, .int .u8 0, .int .u8 0, .lit .nilFunc, .lit (.pointer none), .int .i32 0, .int .i32 0] },
  some { size := 11, bytes := 48, agg := true, cmp := false, tk := .struct [(0, 1, false), (1, 1, false), (2, 1, false), (3, 1, false), (4, 1, false), (5, 1, false), (6, 1, false), (7, 1, false), (8, 1, false), (9, 1, false), (10, 1, false)], zero := [.int .u64 0, .int .u64 0, .int .u32 0, .int .u8 0, .int .u8 0, .int .u8 0, .int .u8 0, .lit .nilFunc, .lit (.pointer none), .int .i32 0, .int .i32 0] },
  some { size := 2, bytes := 32, agg := true, cmp := true, tk := .struct [(0, 1, false), (1, 1, false)], zero := [.str ByteArray.empty, .str ByteArray.empty] },
  some { size := 2, bytes := 32, agg := true, cmp := true, tk := .struct [(0, 1, false), (1, 1, false)], zero := [.str ByteArray.empty, .str ByteArray.empty] },
  some { size := 1, bytes := 8, agg := false, cmp := false, tk := .other, zero := [.lit (.pointer none)] }]
def tyOf_all : List (List (Option TyI)) := [tyOf_0, tyOf_1, tyOf_2, tyOf_3, tyOf_4, tyOf_5, tyOf_6, tyOf_7, tyOf_8, tyOf_9]

theorem ty_ok : allB Go.Proofs.Tryd.prog 0 tyOf_all = true := by decide +kernel
end Go.Sym
namespace Go.Sym
open Go Go.Proofs.Tryd
def tyOf (t : Nat) : Option TyI := lookTy tyOf_all t
def env : Env := { ty := fun t => tyOf t, mode := fun f => match f with
    | 25 => [.own, .bor, .own]
    | 26 => [.own]
    | 36 => [.own, .own]
    | 37 => [.own]
    | 45 => [.own]
    | 52 => [.own]
    | 65 => [.own]
    | 79 => [.own]
    | _ => [] }
theorem hE : EnvOk prog env := env_ok (by rfl) ty_ok
theorem hm : prog.follows .mixedOrders = true := rfl
structure Ctx (n0 : Nat) (F : FnT) (L : LpT) : Prop where
  fn : ∀ {f args H res H'}, Fn prog f args H res H' → F f args H res H'
  loop : ∀ {ι : Type} (S : ι → ASt) (I : ι → Prop) (μ : ι → Nat) {b : Code} {st : ASt} {K : AEx → ASt → Prop}, regOk b = true → Start S I n0 st → (∀ i, I i → cw env F L b (S i) (bodyK S I μ n0 i K)) → L b st K
theorem Ctx.loopAt {n0 : Nat} {F : FnT} {L : LpT} (C : Ctx n0 F L) {ι : Type} {b : Code} {st : ASt} {K : AEx → ASt → Prop} (rs : List (Nat × Nat)) (us : ι → List (Nat × PV)) (h : ι → Heap) (I : ι → Prop) (μ : ι → Nat) (hr : regOk b = true)
    (start : Start (fun i => ⟨sets (resets st.tmps rs) (us i), h i⟩) I n0 st) (body : ∀ i, I i → cw env F L b ⟨sets (resets st.tmps rs) (us i), h i⟩ (bodyK (fun i => ⟨sets (resets st.tmps rs) (us i), h i⟩) I μ n0 i K)) : L b st K :=
  C.loop _ I μ hr start body
theorem goB {f : Nat} {fn : Func} {code : Code} {args res : List PV} {H H' : List Sym.Obj} {n : Nat} {rv : List ResultVar} (hf : prog.funcs[f]? = some fn) (hname : fn.name ≠ "runtime.NumGoroutine") (hb : fn.body = some code) (hr : regOk code = true)
    (hn : fn.ntmps - args.length = n) (hrv : fn.results.toList = rv) (h64 : H.length ≤ 64) (h : ∀ F L, Ctx H.length F L → cw env F L code ⟨args ++ tops n, heapOf 0 H⟩ (retK env rv H.length res H')) : FnB prog f args H res H' :=
  fnB_of_cw hE hm hf hname hb hr hn hrv fun fc hfc => h _ _ ⟨fun h => h, fun S I μ _ _ _ hr start body => loop_rule S I μ hE (by omega) hm hfc hr start body⟩
theorem go {f : Nat} {fn : Func} {code : Code} {args res : List PV} {H H' : List Sym.Obj} {n : Nat} {rv : List ResultVar} (hf : prog.funcs[f]? = some fn) (hname : fn.name ≠ "runtime.NumGoroutine") (hb : fn.body = some code) (hr : regOk code = true)
    (hn : fn.ntmps - args.length = n) (hrv : fn.results.toList = rv) (h64 : H.length ≤ 64) (h : ∀ F L, Ctx H.length F L → cw env F L code ⟨args ++ tops n, heapOf 0 H⟩ (retK env rv H.length res H')) : Fn prog f args H res H' := .inl (goB hf hname hb hr hn hrv h64 h)
end Go.Sym
