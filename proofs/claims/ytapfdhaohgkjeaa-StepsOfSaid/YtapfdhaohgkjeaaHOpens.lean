/- The kinds of what comes in. -/
import Derived.Test.YtapfdhaohgkjeaaHOpenKit
import Derived.Test.YtapfdhaohgkjeaaXPx0
namespace Go.Proofs.Ytapfdhaohgkjeaa.XP
open Go.RowKit Go.Proofs.YtapfdhaohgkjeaaW.PrintWords Go.Proofs.Ytapfdhaohgkjeaa.OpenKit
def I64 (n : Int) : Prop := -9223372036854775808 ≤ n ∧ n ≤ 9223372036854775807
theorem i64_of {n : Int} (h : (Lit.int .i64 n).wf = true) : I64 n := by
  simp [Lit.wf, IntKind.min, IntKind.max, IntKind.bits, IntKind.signed] at h
  unfold I64
  omega
variable {H : Type} {enc : TypeId × Value → H} {W : World}
theorem opens3 : Opens enc Try.prog W 3 (Kd.int .i64) I64 := fun f c x h => by
  obtain ⟨a, ha, hk⟩ := opens_int Try.underlying3 f c x h
  exact ⟨a, i64_of ha, hk⟩
def ok48 (s : S48) : Prop := I64 s.f0 ∧ I64 s.f1
def ok38 (s : S38) : Prop := I64 s.f0 ∧ I64 s.f1
def ok40 (s : S40) : Prop := ok38 s.f0 ∧ I64 s.f1
theorem opens48 : Opens enc Try.prog W 48 k48 ok48 :=
  (opens_struct2 Try.underlying48 rfl opens3 opens3 rfl rfl (by kernel_rfl) (by kernel_rfl) (by kernel_rfl)).iso (fun x : S48 => (x.f0, x.f1)) (fun a => ⟨a.1, a.2⟩) (fun _ => rfl) (fun _ h => h)
theorem opens38 : Opens enc Try.prog W 38 k38 ok38 :=
  (opens_struct2 Try.underlying38 rfl opens3 opens3 rfl rfl (by kernel_rfl) (by kernel_rfl) (by kernel_rfl)).iso (fun x : S38 => (x.f0, x.f1)) (fun a => ⟨a.1, a.2⟩) (fun _ => rfl) (fun _ h => h)
theorem opens40 : Opens enc Try.prog W 40 k40 ok40 :=
  (opens_struct2 Try.underlying40 rfl opens38 opens3 rfl rfl (by kernel_rfl) (by kernel_rfl) (by kernel_rfl)).iso (fun x : S40 => (x.f0, x.f1)) (fun a => ⟨a.1, a.2⟩) (fun _ => rfl) (fun _ h => h)
end Go.Proofs.Ytapfdhaohgkjeaa.XP
