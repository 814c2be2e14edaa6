
/- A chain, a plan that came as an argument: its form. -/
import Derived.Test.YtejfjbfkbdcmnaaDoorShellD
import Derived.Test.YtejfjbfkbdcmnaaDoorSchedPure
set_option linter.unusedVariables false
set_option linter.unusedSimpArgs false
namespace Go.Proofs.YtejfjbfkbdcmnaaDoor
open Go.RowKit Go.Proofs.YtejfjbfkbdcmnaaDoorW.PrintWords Go.Proofs.YtejfjbfkbdcmnaaDoorW.PrintLast Go.Proofs.YtejfjbfkbdcmnaaDoorW.PrintMore

theorem chain_came {W : World} {b : Nat} {v : Value} (hv : Value.okWide Tryd.prog W .any b 24 v) : ∃ c : ChainV, v = .agg #[.int .i64 c.va, .int .i64 c.sl, .int .i64 c.co, .int .i64 c.su, .int .i64 c.ti, .int .i64 c.di, .int .i64 c.ra, .int .i64 c.ro, .int .i64 c.ag, .int .u64 c.se] ∧ 0 ≤ c.se := by
  obtain ⟨cs, rfl, h⟩ := open_agg (ts := [3, 3, 3, 3, 3, 3, 3, 3, 3, 22]) (by rw [Tryd.underlying24]) (by kernel_rfl) (by kernel_rfl) hv
  obtain ⟨a, _, rfl, ha, h⟩ := agg_cons Tryd.underlying3 h
  obtain ⟨b, _, rfl, hb, h⟩ := agg_cons Tryd.underlying3 h
  obtain ⟨c, _, rfl, hc, h⟩ := agg_cons Tryd.underlying3 h
  obtain ⟨d, _, rfl, hd, h⟩ := agg_cons Tryd.underlying3 h
  obtain ⟨e, _, rfl, he, h⟩ := agg_cons Tryd.underlying3 h
  obtain ⟨f, _, rfl, hf, h⟩ := agg_cons Tryd.underlying3 h
  obtain ⟨g, _, rfl, hg, h⟩ := agg_cons Tryd.underlying3 h
  obtain ⟨i, _, rfl, hi, h⟩ := agg_cons Tryd.underlying3 h
  obtain ⟨j, _, rfl, hj, h⟩ := agg_cons Tryd.underlying3 h
  obtain ⟨k, _, rfl, hk, h⟩ := agg_cons Tryd.underlying22 h
  obtain rfl := allOk_nil h
  exact ⟨⟨a, b, c, d, e, f, g, i, j, k⟩, rfl, by have := hk.1; simpa [IntKind.min, IntKind.signed] using this⟩
theorem plan_came {W : World} {b : Nat} {v : Value} (hv : Value.okWide Tryd.prog W .any b 26 v) : ∃ p : PlanV, v = .agg #[.int .u64 p.no, .int .i64 p.ke, .int .i64 p.pe] ∧ 0 ≤ p.no := by
  obtain ⟨cs, rfl, h⟩ := open_agg (ts := [22, 3, 3]) (by rw [Tryd.underlying26]) (by kernel_rfl) (by kernel_rfl) hv
  obtain ⟨a, _, rfl, ha, h⟩ := agg_cons Tryd.underlying22 h
  obtain ⟨b, _, rfl, hb, h⟩ := agg_cons Tryd.underlying3 h
  obtain ⟨c, _, rfl, hc, h⟩ := agg_cons Tryd.underlying3 h
  obtain rfl := allOk_nil h
  exact ⟨⟨a, b, c⟩, rfl, by have := ha.1; simpa [IntKind.min, IntKind.signed] using this⟩
end Go.Proofs.YtejfjbfkbdcmnaaDoor
