/- The raw numbers of chapter 18's statements as they come in. -/
import Derived.Test.YtdhgneindanbeaaShellG
import Derived.Test.YtdhgneindanbeaaScoreGen
set_option linter.unusedVariables false
set_option linter.unusedSimpArgs false
namespace Go.Proofs.Ytdhgneindanbeaa
open Go.RowKit Go.Proofs.YtdhgneindanbeaaW.PrintWords Go.Proofs.YtdhgneindanbeaaW.PrintLast Go.Proofs.YtdhgneindanbeaaW.PrintMore
open Go.ChangeShapes Go.WideShapes Go.ChangeAt

theorem seven_came {W : World} {b : Nat} {v : Value} (hv : Value.okWide Try.prog W .any b 26 v) : ∃ n : Seven, v = .agg #[.int .i64 n.a, .int .i64 n.b, .int .i64 n.c, .int .i64 n.d, .int .i64 n.e, .int .i64 n.f, .int .i64 n.g] := by
  obtain ⟨cs, rfl, h⟩ := open_agg (ts := [3, 3, 3, 3, 3, 3, 3]) (by rw [Try.underlying26]) (by kernel_rfl) (by kernel_rfl) hv
  obtain ⟨a, _, rfl, ha, h⟩ := agg_cons Try.underlying3 h
  obtain ⟨b, _, rfl, hb, h⟩ := agg_cons Try.underlying3 h
  obtain ⟨c, _, rfl, hc, h⟩ := agg_cons Try.underlying3 h
  obtain ⟨d, _, rfl, hd, h⟩ := agg_cons Try.underlying3 h
  obtain ⟨e, _, rfl, he, h⟩ := agg_cons Try.underlying3 h
  obtain ⟨f, _, rfl, hf, h⟩ := agg_cons Try.underlying3 h
  obtain ⟨g, _, rfl, hg, h⟩ := agg_cons Try.underlying3 h
  obtain rfl := allOk_nil h
  exact ⟨⟨a, b, c, d, e, f, g, ha, hb, hc, hd, he, hf, hg⟩, rfl⟩
theorem three_came {W : World} {b : Nat} {v : Value} (hv : Value.okWide Try.prog W .any b 27 v) : ∃ n : Three, v = .agg #[.int .i64 n.a, .int .i64 n.b, .int .i64 n.c] := by
  obtain ⟨cs, rfl, h⟩ := open_agg (ts := [3, 3, 3]) (by rw [Try.underlying27]) (by kernel_rfl) (by kernel_rfl) hv
  obtain ⟨a, _, rfl, ha, h⟩ := agg_cons Try.underlying3 h
  obtain ⟨b, _, rfl, hb, h⟩ := agg_cons Try.underlying3 h
  obtain ⟨c, _, rfl, hc, h⟩ := agg_cons Try.underlying3 h
  obtain rfl := allOk_nil h
  exact ⟨⟨a, b, c, ha, hb, hc⟩, rfl⟩
end Go.Proofs.Ytdhgneindanbeaa
