/- octets.Join: the walk. -/
import Derived.Test.YtpfihchdbdhbjaaRows
import Derived.Test.YtpfihchdbdhbjaaM
import Derived.Deep.LoopGhost
import Derived.Deep.DeepMust
namespace Go.Proofs.Ytpfihchdbdhbjaa
open Go.RowKit

theorem info8 : (Try.prog.info? 5).map (fun i => (i.zero, i.size, i.bytes)) = some (some (.int .u8 0), 1, 1) := by kernel_rfl

theorem flatten_take_le (ls : List (List UInt8)) (k : Nat) : (ls.take k).flatten.length ≤ ls.flatten.length := by
  conv => rhs; rw [← List.take_append_drop k ls]
  rw [List.flatten_append, List.length_append]
  omega
theorem flatten_take_succ (ls : List (List UInt8)) (k : Nat) (h : k < ls.length) : (ls.take (k + 1)).flatten = (ls.take k).flatten ++ ls[k] := by
  rw [List.take_succ_eq_append_getElem h, List.flatten_append]; simp

set_option maxHeartbeats 400000 in
theorem join_any (A : Option Addr) (n c : Nat) (ls : List (List UInt8)) (w : World) (h : IsBB w A n c ls) (hn : ls.flatten.length ≤ 1000000) :
    Calls Try.prog 28 #[.slice A n c] w fun e w' => ∃ A' n' c', e = .returned (.slice A' n' c') ∧ Own w' w.heap.size 5 A' n' c' (ls.flatten.map u8) ∧ Below w.heap.size w w' := by
  obtain ⟨i0, hi0, hz0, hz1, hz2⟩ := info_parts info8
  have hcap : n ≤ 9223372036854775807 := by have h1 := h.cap; have h2 := h.max; unfold maxLen at h2; omega
  have H := Lib.hid h
  have HI := Lib.hid (And.intro hi0 (And.intro hz0 (And.intro hz1 hz2)))
  clear h hi0 hz0 hz1 hz2
  go_enter Try.func28, Try.ntmps28
  go_wp2
  go_loopg [3, 8] n (fun g v i wr => ∃ k A' n' c', k ≤ n ∧ g = n - k ∧ i = .int .i64 (k : Int) ∧ v = .slice A' n' c' ∧ Own wr w.heap.size 5 A' n' c' ((ls.take k).flatten.map u8) ∧ Below w.heap.size w wr)
  case atStart => exact ⟨0, none, 0, 0, by omega, rfl, rfl, rfl, Own.nil _ _, Below.refl _ _⟩
  case round =>
    obtain ⟨k, A', n', c', hk, hg, rfl, rfl, hown, hb⟩ := hrel
    by_cases hlt : k < n
    · have hl : k < ls.length := by have := H.out.len; omega
      obtain ⟨A2, n2, c2, ⟨b, off, rfl, hc⟩, hr⟩ := H.out.at_ k _ (List.getElem?_eq_getElem hl)
      have hc2 : wr.cell? ⟨b, off + k, none⟩ = some (.slice A2 n2 c2) := by
        rw [hb.cell (p := ⟨b, off + k, none⟩) (World.block_lt_of_cell? w _ hc)]; exact hc
      have hr2 : Rd wr A2 n2 c2 (ls[k].map u8) := hr.below hb
      have hle := flatten_take_le ls (k + 1)
      have hsucc := flatten_take_succ ls k hl
      have hn' : n' = (ls.take k).flatten.length := by have := hown.1; rw [List.length_map] at this; omega
      have hn2 : n2 = ls[k].length := by have := hr2.len; rw [List.length_map] at this; omega
      have hsum : n' + n2 ≤ 1000000 := by rw [hsucc, List.length_append] at hle; omega
      have Hs := Lib.hid hsucc
      have Hn := Lib.hid (And.intro hn' hn2)
      clear hsucc hle hn' hn2
      go_wp2_with (at_builtin; refine wpList_append_rd _ rfl (.tmp 12) (.tmp 13) 22 rfl w.heap.size 5 i0 _ 1 Try.underlying22 HI.out.1 HI.out.2.1 HI.out.2.2.1 HI.out.2.2.2 rfl A' n' c' _ rfl hown A2 n2 c2 _ rfl hr2 (u8_one _) ?_ (by omega) hb.size ?_)
      case _ => omega
      intro A3 c3 w3 hown3 hg3 _
      have hb3 := hb.grown hg3 hb.size (hown.block)
      go_wp2
      go_roundg (n - (k + 1))
      case measure => omega
      case rel =>
        refine ⟨k + 1, A3, n' + n2, c3, by omega, rfl, by go_num, rfl, ?_, hb3⟩
        rw [Hs.out]; simpa using hown3
    · go_wp2
      go_ret
      refine ⟨A', n', c', rfl, ?_, hb⟩
      have : k = ls.length := by have := H.out.len; omega
      rw [this, List.take_length] at hown
      exact hown
end Go.Proofs.Ytpfihchdbdhbjaa
