/- What the functions of the program do: their contracts. -/
import Derived.Test.YthcigkhnedchaaaDoorV2
import Derived.Test.YthcigkhnedchaaaDoorTFs
import Derived.Test.YthcigkhnedchaaaDoorW0
/- CsvParses, CsvBack: the arguments. -/
set_option linter.unusedSimpArgs false
set_option linter.unusedVariables false
namespace Go.Proofs.Lx
open Go.Vm Go.RowKit
theorem isA_list49 {α : Type} {e : Sh} (P : α → Prop) (g : α → AV) (hg : ∀ y, IsA e y → ∃ a, P a ∧ y = g a) {x : AV} (h : IsA (.sl e) x) : ∃ l : List α, l.length ≤ maxLen ∧ x = .sl e.n (l.map g) ∧ ∀ a ∈ l, P a := by
  simp only [IsA] at h
  obtain ⟨xs, hl, rfl, hx⟩ := h
  have : ∃ l : List α, xs = l.map g ∧ ∀ a ∈ l, P a := by
    clear hl
    induction xs with
    | nil => exact ⟨[], rfl, by simp⟩
    | cons y r ih =>
      obtain ⟨l, rfl, hl⟩ := ih fun z hz => hx z (List.mem_cons_of_mem _ hz)
      obtain ⟨a, ha, rfl⟩ := hg y (hx y (List.mem_cons_self ..))
      exact ⟨a :: l, rfl, fun b hb => by
        rcases List.mem_cons.1 hb with rfl | hb
        · exact ha
        · exact hl b hb⟩
  obtain ⟨l, rfl, h1⟩ := this
  exact ⟨l, by simpa using hl, rfl, h1⟩
theorem isA_int49 {x : AV} (h : IsA (.int .i64) x) : ∃ n, I64 n ∧ x = .v (.int .i64 n) := by
  simp only [IsA] at h
  obtain ⟨n, hn, rfl⟩ := h
  refine ⟨n, ?_, rfl⟩
  simp [Lit.wf, IntKind.min, IntKind.max, IntKind.signed, IntKind.bits] at hn
  unfold I64; omega
theorem isA_str49 {x : AV} (h : IsA .str x) : ∃ l : List UInt8, l.length ≤ maxLen ∧ x = strA l := by
  simp only [IsA] at h
  obtain ⟨s, hs, rfl⟩ := h
  refine ⟨s.data.toList, by rw [← Lib.size_eq]; exact hs, ?_⟩
  unfold strA
  rw [Lib.mk_data]
theorem isA_rw49 {y : AV} (h : IsA (.agg [.int .i64, .int .i64, .int .i64, .int .i64, .int .i64, .int .i64]) y) : ∃ x : Rw, x.ok ∧ y = rwAv x := by
  simp only [IsA, IsAll] at h
  obtain ⟨ys, ⟨y1, r1, rfl, h1, y2, r2, rfl, h2, y3, r3, rfl, h3, y4, r4, rfl, h4, y5, r5, rfl, h5, y6, r6, rfl, h6, rfl⟩, rfl⟩ := h
  obtain ⟨a1, k1, rfl⟩ := isA_int49 (by simpa only [IsA] using h1)
  obtain ⟨a2, k2, rfl⟩ := isA_int49 (by simpa only [IsA] using h2)
  obtain ⟨a3, k3, rfl⟩ := isA_int49 (by simpa only [IsA] using h3)
  obtain ⟨a4, k4, rfl⟩ := isA_int49 (by simpa only [IsA] using h4)
  obtain ⟨a5, k5, rfl⟩ := isA_int49 (by simpa only [IsA] using h5)
  obtain ⟨a6, k6, rfl⟩ := isA_int49 (by simpa only [IsA] using h6)
  exact ⟨⟨a1, a2, a3, a4, a5, a6⟩, ⟨k1, k2, k3, k4, k5, k6⟩, rfl⟩
theorem cp_args {y0 : AV} (i0 : IsA .str y0) {Q : AV → Heap → Prop} (hq : ∀ h', Q (.v (.bool true)) h') : cpSpec [y0] [] Q := by
  obtain ⟨s, hs, rfl⟩ := isA_str49 i0
  exact ⟨s, by unfold maxLen at hs; omega, rfl, hq _⟩
theorem cb_args {y0 y1 : AV} (i0 : IsA (.sl (.agg [.int .i64, .int .i64, .int .i64, .int .i64, .int .i64, .int .i64])) y0) (i1 : IsA .str y1) {Q : AV → Heap → Prop} (hq : ∀ h', Q (.v (.bool true)) h') : cbSpec [y0, y1] [] Q := by
  obtain ⟨l, hl, rfl, hok⟩ := isA_list49 _ rwAv (fun y hy => isA_rw49 hy) i0
  obtain ⟨s, hs, rfl⟩ := isA_str49 i1
  exact ⟨l, s, by unfold maxLen at hs; omega, by unfold maxLen at hl; omega, hok, rfl, hq _⟩
end Go.Proofs.Lx
