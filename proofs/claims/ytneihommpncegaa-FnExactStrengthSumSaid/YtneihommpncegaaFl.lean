/- A level that came in, as the walks take it. -/
import Derived.Test.YtneihommpncegaaFr
import Derived.Lib.SmallJoins
namespace Go.Proofs.Ytneihommpncegaa
open Go.ChangeShapes Go.WideShapes Go.ChangeAt Go.RowKit Go.Joins

theorem level_of {H : Type} {enc : TypeId × Value → H} {w : World} {base : Nat} {v : Value} {d : DataW H} {p : List MemPlace} {r : Reach}
    (hv : Value.okWide Try.prog w r base 38 v) (h : DataW.Trod enc Try.prog w 0 (fun _ => true) true 38 v d p) :
    ∃ s l j : Int, v = .agg #[.int .i64 s, .int .i64 l, .int .i64 j] ∧ I64 s ∧ I64 l ∧ I64 j := by
  obtain ⟨cs, rfl, hsz⟩ := okWide_struct Try.underlying38 hv
  obtain ⟨c0, c1, c2, rfl⟩ := array3 (hsz.trans (by kernel_rfl))
  obtain ⟨fuel, hf⟩ := h
  obtain ⟨y0, y1, n, _, _, h0, h1⟩ := trod_struct2 Try.underlying38 hf
  have e0 : DataW.trod enc Try.prog w 0 (fun _ => true) true n 36 [c0, c1] = some y0 := h0
  have e1 : DataW.trod enc Try.prog w 0 (fun _ => true) true n 3 [c2] = some y1 := h1
  obtain ⟨z0, z1, m, _, _, g0, g1⟩ := trod_struct2 Try.underlying36 e0
  have f0 : DataW.trod enc Try.prog w 0 (fun _ => true) true m 3 [c0] = some z0 := g0
  have f1 : DataW.trod enc Try.prog w 0 (fun _ => true) true m 3 [c1] = some z1 := g1
  obtain ⟨a, ea, _, wa⟩ := DataW.trod_int Try.underlying3 f0
  obtain ⟨b, eb, _, wb⟩ := DataW.trod_int Try.underlying3 f1
  obtain ⟨c, ec, _, wc⟩ := DataW.trod_int Try.underlying3 e1
  simp at ea eb ec
  subst ea eb ec
  exact ⟨a, b, c, rfl, i64_of wa, i64_of wb, i64_of wc⟩

end Go.Proofs.Ytneihommpncegaa
