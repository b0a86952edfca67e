/- Small words for the printed walks: how wraps of small kinds are spelled. -/
import Derived.Laws.BitsAllLaws
import Derived.WalkKit
namespace Go.Proofs.Ythhgfogdeaaidaa.R
theorem u8_w (n : Int) : IntKind.u8.wrap n = n % 256 := IntKind.wrap_u8' n
theorem u32_w (n : Int) : IntKind.u32.wrap n = n % 4294967296 := IntKind.wrap_u32' n
theorem u64_of_u8 (n : Int) : IntKind.u64.wrap (n % 256) = n % 256 := by
  simp only [IntKind.wrap, IntKind.bits, IntKind.signed]; simp; omega
theorem u64_of_u32 (n : Int) : IntKind.u64.wrap (n % 4294967296) = n % 4294967296 := by
  simp only [IntKind.wrap, IntKind.bits, IntKind.signed]; simp; omega
end Go.Proofs.Ythhgfogdeaaidaa.R
