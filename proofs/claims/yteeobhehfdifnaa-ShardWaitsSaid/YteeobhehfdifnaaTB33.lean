/- A part of the proof that shardWaits of chapter 10 returns true at every room, every deal and every count, and leaves its arguments as they read; no condition. -/
import Derived.Test.YteeobhehfdifnaaTBd
set_option linter.unusedVariables false
set_option linter.unusedSimpArgs false
namespace TB
open Go
theorem agg_of_okWide {P : Program} {w : World} {r : Reach} {base : Nat} {t : TypeId} {v : Value} {fs : Array Field} {l : List Value} (ht : P.underlying t = some (.struct fs)) (h : Value.okWide P w r base t v) (hc : v.cells.toList = l) : v = .agg l.toArray := by
  unfold Value.okWide at h
  rw [ht] at h
  obtain ⟨cs, rfl, _⟩ := h
  simp only [Value.cells] at hc
  subst hc; rfl
theorem int_of_okWide {P : Program} {w : World} {r : Reach} {base : Nat} {t : TypeId} {v : Value} {k : IntKind} {n : Int} (ht : P.underlying t = some (.int k)) (h : Value.okWide P w r base t v) (hc : v.cells.toList = [.int k n]) : v = .int k n := by
  unfold Value.okWide at h
  rw [ht] at h
  cases v <;> first | (simp [Value.cells] at hc; first | exact hc | (obtain ⟨h1, h2⟩ := hc; rw [h1, h2])) | (exfalso; simp [Cell.okWide, Cell.ok, ht] at h; done) | (exfalso; simp [Value.cells] at hc; done)
theorem bool_of_okWide {P : Program} {w : World} {r : Reach} {base : Nat} {t : TypeId} {v : Value} {b : Bool} (ht : P.underlying t = some .bool) (h : Value.okWide P w r base t v) (hc : v.cells.toList = [.bool b]) : v = .bool b := by
  unfold Value.okWide at h
  rw [ht] at h
  cases v <;> first | (simp [Value.cells] at hc; first | exact hc | (rw [hc])) | (exfalso; simp [Cell.okWide, Cell.ok, ht] at h; done) | (exfalso; simp [Value.cells] at hc; done)
theorem slice_of_okWide {P : Program} {w : World} {r : Reach} {base : Nat} {t e : TypeId} {v : Value} {p : Option Addr} {n c : Nat} (ht : P.underlying t = some (.slice e)) (h : Value.okWide P w r base t v) (hc : v.cells.toList = [.slice p n c]) : v = .slice p n c := by
  unfold Value.okWide at h
  rw [ht] at h
  cases v <;> first | (simp [Value.cells] at hc; first | exact hc | (obtain ⟨h1, h2, h3⟩ := hc; rw [h1, h2, h3])) | (exfalso; simp [Cell.okWide, Cell.ok, ht] at h; done) | (exfalso; simp [Value.cells] at hc; done)
theorem string_of_okWide {P : Program} {w : World} {r : Reach} {base : Nat} {t : TypeId} {v : Value} {s : ByteArray} (ht : P.underlying t = some .string) (h : Value.okWide P w r base t v) (hc : v.cells.toList = [.string s]) : v = .string s := by
  unfold Value.okWide at h
  rw [ht] at h
  cases v <;> first | (simp [Value.cells] at hc; first | exact hc | (rw [hc])) | (exfalso; simp [Cell.okWide, Cell.ok, ht] at h; done) | (exfalso; simp [Value.cells] at hc; done)
end TB
