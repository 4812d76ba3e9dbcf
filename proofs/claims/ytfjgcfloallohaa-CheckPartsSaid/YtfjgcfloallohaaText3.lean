/- Lanes and pages as arguments. -/
import Derived.Test.YtfjgcfloallohaaShapes
import Derived.Test.YtfjgcfloallohaaText2
namespace Go.EnvOf
open Go Go.Eng
set_option maxRecDepth 100000
open Go.Proofs in
theorem shp_put {xs : List PV} (h : Shp Try.prog 3 154 xs) : ∃ s : Put, xs = encPut s ∧ (I64 s.y ∧ I64 s.h) := by
  have hk : flatK Try.prog 3 154 = some [.i .i64, .i .i64, .i .i64, .i .i64, .i .i64] := by kernel_rfl
  obtain ⟨a, _, rfl, wa, h1⟩ := flat_6 (flat_ok _ _ _ _ hk h)
  obtain ⟨b, _, rfl, wb, h2⟩ := flat_6 h1
  obtain ⟨c, _, rfl, wc, h3⟩ := flat_6 h2
  obtain ⟨d, _, rfl, wd, h4⟩ := flat_6 h3
  obtain ⟨e, _, rfl, we, h5⟩ := flat_6 h4
  obtain rfl := flat_e h5
  exact ⟨⟨a, b, c, d, e⟩, rfl, wd, we⟩
open Go.Proofs in
theorem shp_puts {d : Nat} {xs : List PV} (h : Shp Try.prog (d + 4) 79 xs) (hd : d = 0) : ∃ l : List Put, xs = [.sl (l.map encPut)] ∧ l.length ≤ maxLen ∧ ∀ a ∈ l, (I64 a.y ∧ I64 a.h) := by
  subst hd
  exact shp_slice (e := 154) (by kernel_rfl) (fun x hx => shp_put hx) h
open Go.Proofs in
theorem shp_lane {d : Nat} (ok : ∀ xs, Shp Try.prog d 79 xs → ∃ l : List Put, xs = [.sl (l.map encPut)]) (ok2 : ∀ xs, Shp Try.prog d 34 xs → ∃ n, xs = [.int .i64 n]) {xs : List PV} (h : Shp Try.prog (d + 1) 81 xs) : ∃ x : Lane, xs = encLane x ∧ True := by
  obtain ⟨h1, h2⟩ := shp_parts (by kernel_rfl) h
  have hc : comps Try.prog 81 = [(0, 34), (1, 79)] := by kernel_rfl
  have hn : Try.prog.cellsOf 81 = 2 := by kernel_rfl
  have c1 : Try.prog.cellsOf 34 = 1 := by kernel_rfl
  have c2 : Try.prog.cellsOf 79 = 1 := by kernel_rfl
  rw [hn] at h1
  rw [hc] at h2
  obtain ⟨a, b, rfl⟩ : ∃ a b, xs = [a, b] := by
    match xs, h1 with
    | [a, b], _ => exact ⟨a, b, rfl⟩
  have ha := h2 (0, 34) (by simp)
  have hb := h2 (1, 79) (by simp)
  simp only [c1, c2, List.drop_zero, List.take_succ_cons, List.take_zero, List.drop_succ_cons] at ha hb
  obtain ⟨n, hn⟩ := ok2 _ ha
  obtain ⟨l, hl⟩ := ok _ hb
  cases hn; cases hl
  exact ⟨⟨n, l⟩, rfl, trivial⟩
open Go.Proofs in
theorem arg_lane {xs : List PV} (h : Shp Try.prog 5 81 xs) : ∃ x : Lane, argV Try.prog 81 xs = vLane x ∧ True := by
  obtain ⟨x, rfl, -⟩ := shp_lane (d := 4) (fun xs h => by obtain ⟨l, h1, -⟩ := shp_puts (d := 0) h rfl; exact ⟨l, h1⟩) (fun xs h => by obtain ⟨n, h1, -⟩ := shp_i64 (by kernel_rfl) h; exact ⟨n, h1⟩) h
  exact ⟨x, argV_agg (by kernel_rfl), trivial⟩
open Go.Proofs in
theorem shp_page {xs : List PV} (h : Shp Try.prog 7 152 xs) : ∃ x : Page, xs = encPage x ∧ True := by
  obtain ⟨h1, h2⟩ := shp_parts (by kernel_rfl) h
  have hc : comps Try.prog 152 = [(0, 150), (1, 3), (2, 3), (3, 3)] := by kernel_rfl
  have hn : Try.prog.cellsOf 152 = 4 := by kernel_rfl
  have c1 : Try.prog.cellsOf 150 = 1 := by kernel_rfl
  have c2 : Try.prog.cellsOf 3 = 1 := by kernel_rfl
  rw [hn] at h1
  rw [hc] at h2
  obtain ⟨a, b, c, d, rfl⟩ : ∃ a b c d, xs = [a, b, c, d] := by
    match xs, h1 with
    | [a, b, c, d], _ => exact ⟨a, b, c, d, rfl⟩
  have q0 := h2 (0, 150) (by simp)
  have q1 := h2 (1, 3) (by simp)
  have q2 := h2 (2, 3) (by simp)
  have q3 := h2 (3, 3) (by simp)
  simp only [c1, c2, List.drop_zero, List.take_succ_cons, List.take_zero, List.drop_succ_cons] at q0 q1 q2 q3
  obtain ⟨l, e0, -, -⟩ := shp_slice (e := 81) (enc := encLane) (good := fun _ => True) (by kernel_rfl) (fun x hx => shp_lane (d := 4) (fun xs h => by obtain ⟨l, h1, -⟩ := shp_puts (d := 0) h rfl; exact ⟨l, h1⟩) (fun xs h => by obtain ⟨n, h1, -⟩ := shp_i64 (by kernel_rfl) h; exact ⟨n, h1⟩) hx) q0
  obtain ⟨n1, e1, -⟩ := shp_i64 (by kernel_rfl) q1
  obtain ⟨n2, e2, -⟩ := shp_i64 (by kernel_rfl) q2
  obtain ⟨n3, e3, -⟩ := shp_i64 (by kernel_rfl) q3
  cases e0; cases e1; cases e2; cases e3
  exact ⟨⟨l, n1, n2, n3⟩, rfl, trivial⟩
open Go.Proofs in
theorem arg_pages {xs : List PV} (h : Shp Try.prog 8 82 xs) : ∃ l : List Page, argV Try.prog 82 xs = vPages l ∧ True := by
  obtain ⟨l, rfl, -, -⟩ := shp_slice (e := 152) (enc := encPage) (good := fun _ => True) (by kernel_rfl) (fun x hx => shp_page hx) h
  exact ⟨l, argV_one (by kernel_rfl), trivial⟩
end Go.EnvOf
