/- page.Scan and the reference's Scan, side by side: whatever the pages and the keys, both answer the same. No condition. -/
import Derived.Test.YtookpmdgoednfaaSn
import Derived.Test.YtookpmdgoednfaaGs
namespace Go.Proofs.Ytookpmdgoednfaa.Sb
open Go.RowKit Go.Proofs.YtookpmdgoednfaaW.PrintWords Go.Proofs.YtookpmdgoednfaaW.PrintLast Go.Proofs.YtookpmdgoednfaaW.PrintMore Go.Proofs.Ytookpmdgoednfaa.Mx Go.Proofs.Ytookpmdgoednfaa.PPagePuts Go.Proofs.Ytookpmdgoednfaa.Pa Go.Proofs.Ytookpmdgoednfaa.Gq Go.Proofs.Ytookpmdgoednfaa.Gs
set_option linter.unusedVariables false
theorem flat_len : ∀ (ps : List (List Py.SP)), (∀ p ∈ ps, p.length ≤ 8) → ps.flatten.length ≤ 8 * ps.length
  | [], _ => by simp
  | p :: ps, h => by
    have h1 := flat_len ps (fun q hq => h q (List.mem_cons_of_mem _ hq))
    have h2 := h p (List.mem_cons_self ..)
    rw [List.flatten_cons, List.length_append, List.length_cons]
    omega
theorem rmore_len (n : Int) (lo hi : ByteArray) (l : List Py.SP) : (rmore n lo hi [] l).length ≤ l.length := by
  unfold rmore
  rw [List.nil_append, List.length_take]
  have := List.length_filter_le (within lo hi) l
  omega
theorem both_scan (ps : List (List SP)) (lo hi : ByteArray) (n : Int) (hn : ps.length ≤ 400) : ∃ (res : List SP), res.length ≤ 100000 ∧
    (∀ (A : Option Addr) (c : Nat) (w : World), Kd.C (Kd.slice 41 kP) w A ps.length ps → ps.length ≤ c → Calls Try.prog 30 #[.slice A ps.length c, .string lo, .string hi, .int .i64 n] w fun e w' => ∃ v : Value, e = .returned v ∧ Mem w w' [row kP 41 v res]) ∧
    Ev (fun k => falseworkref7_Scan.f k ps lo hi n) res := by
  have hR := Py.page_right ps (by omega)
  obtain ⟨k0, hk0⟩ := hR.rounds
  cases hr : Py.right ps with
  | false =>
    rw [hr] at hk0
    exact ⟨[], by simp, fun A c w hl hc => Sn.Scan_not A c ps lo hi n w hl hc k0 hk0, refscan_not ps lo hi n (by omega) hr⟩
  | true =>
    rw [hr] at hk0
    by_cases hne : ps.length = 0
    · obtain rfl := List.eq_nil_of_length_eq_zero hne
      refine ⟨[], by simp, fun A c w hl hc => Sn.Scan_none A c lo hi n w hl k0 hk0, ?_⟩
      have h := refscan [] lo hi n (by simp) (by simp) hr
      simpa [rmore] using h
    · have rt := Px.rt_of hr
      obtain ⟨k, hk, h1, h2⟩ := Px.page_cut rt lo.toList
      refine ⟨rmore n lo hi [] ps.flatten, ?_, fun A c w hl hc => Sn.Scan_in A c ps lo hi n w hl hc k0 hk0 (by omega) (by omega) rt.len k hk h1 h2 _ (both_sel rt n lo hi k hk h1), refscan ps lo hi n (by omega) (fun q hq => (rt.len q hq).2) hr⟩
      have e1 := rmore_len n lo hi ps.flatten
      have e2 := flat_len ps (fun q hq => (rt.len q hq).2)
      omega
end Go.Proofs.Ytookpmdgoednfaa.Sb
