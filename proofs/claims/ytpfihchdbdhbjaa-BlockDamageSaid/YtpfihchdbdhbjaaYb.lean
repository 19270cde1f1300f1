/- A block that came in by value: its fields. -/
import Derived.Test.YtpfihchdbdhbjaaY
namespace Go.Proofs.Ytpfihchdbdhbjaa
open Go.Joins Go.ChangeShapes Go.WideShapes Go.ChangeAt Go.RowKit Go.Deep
theorem open_blk {H : Type} {enc : TypeId × Value → H} {w : World} {base : Nat} {spare : Nat → Bool} {held : Bool} {r : Reach} {b0 : Nat} {v : Value} {d : DataW H} {p : List MemPlace}
    (hv : Value.okWide Try.prog w r b0 24 v) (h : DataW.Trod enc Try.prog w base spare held 24 v d p) :
    ∃ nad kind seq more code answer A n c inf, v = .agg #[.int .i64 nad, .int .i64 kind, .int .i64 seq, .bool more, .int .i64 code, .bool answer, .slice A n c] ∧ IsB w A n c inf := by
  obtain ⟨v0, v1, v2, v3, v4, v5, v6, y0, y1, y2, y3, y4, y5, y6, m, rfl, h0, h1, h2, h3, h4, h5, h6⟩ := open_agg7 Try.underlying24 (by kernel_rfl) (by kernel_rfl) hv h
  obtain ⟨nad, rfl, _⟩ := int_of Try.underlying3 h0
  obtain ⟨kind, rfl, _⟩ := int_of Try.underlying3 h1
  obtain ⟨seq, rfl, _⟩ := int_of Try.underlying3 h2
  obtain ⟨more, rfl⟩ := bool_of Try.underlying4 h3
  obtain ⟨code, rfl, _⟩ := int_of Try.underlying3 h4
  obtain ⟨answer, rfl⟩ := bool_of Try.underlying4 h5
  obtain ⟨A, n, c, inf, rfl, hi⟩ := isB_of_trod Try.underlying22 Try.underlying5 (by kernel_rfl) h6
  exact ⟨nad, kind, seq, more, code, answer, A, n, c, inf, rfl, hi⟩
end Go.Proofs.Ytpfihchdbdhbjaa
