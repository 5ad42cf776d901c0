/-
  Facts on the types of the program.
  Conditions: none.
-/
import Derived.Test.YtenkokebdgekbaaProg
import Derived.Test.YtenkokebdgekbaaAmC
namespace Go.Am
instance : ScT Go.Proofs.Try.prog 3 := ScT.of (by kernel_rfl)
instance : IntT Go.Proofs.Try.prog 3 .i64 := IntT.of (by kernel_rfl)
instance : ZeT Go.Proofs.Try.prog 3 [.int .i64 0] := ⟨by kernel_rfl⟩
instance : ScT Go.Proofs.Try.prog 4 := ScT.of (by kernel_rfl)
instance : ScT Go.Proofs.Try.prog 5 := ScT.of (by kernel_rfl)
instance : IntT Go.Proofs.Try.prog 5 .u8 := IntT.of (by kernel_rfl)
instance : ScT Go.Proofs.Try.prog 22 := ScT.of (by kernel_rfl)
instance : ZeT Go.Proofs.Try.prog 22 [.nils] := ⟨by kernel_rfl⟩
instance : SlT Go.Proofs.Try.prog 22 3 1 [.int .i64 0] := SlT.of (by kernel_rfl) rfl (by decide)
instance : SlT Go.Proofs.Try.prog 25 22 1 [.nils] := SlT.of (by kernel_rfl) rfl (by decide)
instance : AgT Go.Proofs.Try.prog 47 9 := AgT.of (by kernel_rfl)
instance : ScT Go.Proofs.Try.prog 68 := ScT.of (by kernel_rfl)
instance : ZeT Go.Proofs.Try.prog 68 [.nilm] := ⟨by kernel_rfl⟩
instance : ScT Go.Proofs.Try.prog 69 := ScT.of (by kernel_rfl)
instance : ZeT Go.Proofs.Try.prog 69 [.nilf] := ⟨by kernel_rfl⟩
instance : AgT Go.Proofs.Try.prog 70 5 := AgT.of (by kernel_rfl)
instance : ZeT Go.Proofs.Try.prog 70 [.int .i64 0, .int .i64 0, .int .i64 0, .int .i64 0, .int .i64 0] := ⟨by kernel_rfl⟩
instance : ScT Go.Proofs.Try.prog 81 := ScT.of (by kernel_rfl)
instance : ZeT Go.Proofs.Try.prog 81 [.nils] := ⟨by kernel_rfl⟩
instance : SlT Go.Proofs.Try.prog 81 22 1 [.nils] := SlT.of (by kernel_rfl) rfl (by decide)
instance : IntT Go.Proofs.Try.prog 92 .u64 := IntT.of (by kernel_rfl)
instance : IntT Go.Proofs.Try.prog 106 .u64 := IntT.of (by kernel_rfl)
end Go.Am
