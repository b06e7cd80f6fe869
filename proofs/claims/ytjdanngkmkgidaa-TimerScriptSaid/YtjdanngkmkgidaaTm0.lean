/- How a method is found of a pointer in an interface; heap's interface over *moments. -/
import Derived.Test.YtjdanngkmkgidaaRows
import Derived.Test.YtjdanngkmkgidaaKit2
import Derived.Test.YtjdanngkmkgidaaHeap0
import Derived.StillTailTactics
namespace Go.Proofs.Ytjdanngkmkgidaa
open Go.RowKit
set_option linter.unusedVariables false
theorem run_method_ptr {P : Program} {w : World} {q : Nat} {t elem : TypeId} {name : String} {fid : FuncId} {p o : Nat} {v : Value}
    (hi : (P.info? t).map (fun i => (i.methods.find? (·.name == name)).map fun m => (m.path, m.func)) = some (some (#[], some (fid, false)))) (hu : P.underlying t = some (.pointer elem))
    (hl : (loadVar elem ⟨p, o, none⟩).run P w = .ok v w) : (method (q + 1) t (.pointer (some ⟨p, o, none⟩)) name).run P w = .ok (fid, v) w := by
  cases h : P.info? t with
  | none => rw [h] at hi; simp at hi
  | some i =>
    rw [h] at hi
    simp only [Option.map_some, Option.some.injEq] at hi
    cases hm : i.methods.find? (·.name == name) with
    | none => rw [hm] at hi; simp at hi
    | some m =>
      rw [hm] at hi
      simp only [Option.map_some, Option.some.injEq, Prod.mk.injEq] at hi
      obtain ⟨hp, hf⟩ := hi
      have hs : ∀ xt nm, Builtin.ssaWrapNilChk_ #[xt] xt #[.pointer (some ⟨p, o, none⟩), strVal "", strVal nm] = pure (.pointer (some ⟨p, o, none⟩)) := fun _ _ => rfl
      simp [method, typeInfo, h, hm, hp, hf, follow, receiverAt, run_underlying hu, Place.get, hs, asAddr, hl]
theorem m_less {w : World} {p o : Nat} {v : Value} (h : w.cell? ⟨p, o, none⟩ = some v) : (method 248 83 (.pointer (some ⟨p, o, none⟩)) "Less").run Try.prog w = .ok (98, v) w := by
  refine run_method_ptr (by kernel_rfl) Try.underlying83 ?_
  go_simp
theorem m_len {w : World} {p o : Nat} {v : Value} (h : w.cell? ⟨p, o, none⟩ = some v) : (method 248 83 (.pointer (some ⟨p, o, none⟩)) "Len").run Try.prog w = .ok (97, v) w := by
  refine run_method_ptr (by kernel_rfl) Try.underlying83 ?_
  go_simp
theorem m_swap {w : World} {p o : Nat} {v : Value} (h : w.cell? ⟨p, o, none⟩ = some v) : (method 248 83 (.pointer (some ⟨p, o, none⟩)) "Swap").run Try.prog w = .ok (99, v) w := by
  refine run_method_ptr (by kernel_rfl) Try.underlying83 ?_
  go_simp
theorem m_push (a : Addr) (w : World) : (method 248 83 (.pointer (some a)) "Push").run Try.prog w = .ok (101, .pointer (some a)) w := by kernel_rfl
theorem m_pop (a : Addr) (w : World) : (method 248 83 (.pointer (some a)) "Pop").run Try.prog w = .ok (100, .pointer (some a)) w := by kernel_rfl
end Go.Proofs.Ytjdanngkmkgidaa
