/- Pages in memory: a row of headers, and a row of pairs behind each. Walks: a page cloned, pages anew. -/
import Derived.Test.YtookpmdgoednfaaFl
import Derived.Test.YtookpmdgoednfaaPgA0
import Derived.Deep.RegionLaw
namespace Go.Proofs.Ytookpmdgoednfaa.Pa
open Go.RowKit Go.Proofs.YtookpmdgoednfaaW.PrintWords Go.Proofs.YtookpmdgoednfaaW.PrintLast Go.Proofs.YtookpmdgoednfaaW.PrintMore Go.Proofs.Ytookpmdgoednfaa.Mx Go.Proofs.Ytookpmdgoednfaa.PPagePuts
set_option linter.unusedVariables false
set_option linter.unusedSimpArgs false
abbrev SP := S41
abbrev kP := k41
/-- A slice's header. -/
structure Hd where
  A : Option Addr
  n : Nat
  c : Nat
def Hd.v (h : Hd) : Value := .slice h.A h.n h.c
def kH : Kd Hd := Kd.scalar Hd.v (fun _ => rfl)
def encP (x : SP) : List Value := [.string x.f0, .string x.f1]
theorem flatP : Flat kP encP := ⟨fun h => k41_openM h, fun w b ok x => k41_mkM w b ok x, fun h => k41_open h⟩
theorem flatH : Flat kH (fun h => [h.v]) := ⟨fun h => h, fun _ _ _ _ => rfl, fun h => h⟩
/-- The pages' own rows. -/
def inner (hs : List Hd) (ps : List (List SP)) : List Res := List.zipWith (fun h p => row kP 41 h.v p) hs ps
theorem inner_len {hs : List Hd} {ps : List (List SP)} (h : hs.length = ps.length) : (inner hs ps).length = ps.length := by unfold inner; rw [List.length_zipWith]; omega
theorem inner_get {hs : List Hd} {ps : List (List SP)} {j : Nat} {h : Hd} {p : List SP} (h1 : hs[j]? = some h) (h2 : ps[j]? = some p) : (inner hs ps)[j]? = some (row kP 41 h.v p) := by
  unfold inner
  rw [List.getElem?_zipWith, h1, h2]
theorem inner_set (hs : List Hd) (ps : List (List SP)) (j : Nat) (h : Hd) (p : List SP) : (inner hs ps).set j (row kP 41 h.v p) = inner (hs.set j h) (ps.set j p) := by
  unfold inner
  induction hs generalizing ps j with
  | nil => simp
  | cons a hs ih =>
    cases ps with
    | nil => simp
    | cons q ps =>
      cases j with
      | zero => simp
      | succ j => simpa using ih ps j
theorem inner_snoc {hs : List Hd} {ps : List (List SP)} (hl : hs.length = ps.length) (h : Hd) (p : List SP) : inner (hs ++ [h]) (ps ++ [p]) = inner hs ps ++ [row kP 41 h.v p] := by
  unfold inner
  rw [List.zipWith_append hl]
  rfl
/-- Pages of the call's own. -/
structure PgM (w0 w : World) (v : Value) (hs : List Hd) (ps : List (List SP)) (F : List Res) : Prop where
  len : hs.length = ps.length
  mem : Mem w0 w (row kH 32 v hs :: (inner hs ps ++ F))
theorem PgM.read {w0 w : World} {v : Value} {hs : List Hd} {ps : List (List SP)} {F : List Res} (h : PgM w0 w v hs ps F) : ∃ A c, v = .slice A ps.length c ∧ ps.length ≤ c ∧ kH.C w A ps.length hs ∧ Kd.C (Kd.slice 41 kP) w A ps.length ps := by
  obtain ⟨A, c, hv, hc, hC⟩ := h.mem.row_at 0 rfl
  rw [h.len] at hv hc hC
  refine ⟨A, c, hv, hc, hC, rfl, hC.2.1, fun hp => ?_⟩
  obtain ⟨ad, e, hr⟩ := hC.2.2 hp
  refine ⟨ad, e, fun j p hj => ?_⟩
  have hlt : j < ps.length := (List.getElem?_eq_some_iff.1 hj).1
  obtain ⟨h0, hhs⟩ : ∃ h0, hs[j]? = some h0 := ⟨_, List.getElem?_eq_getElem (by rw [h.len]; exact hlt)⟩
  obtain ⟨cs, g1, g2, g3⟩ := hr j h0 hhs
  have hrow := h.mem.row_at (1 + j) (d := kP) (e := 41) (v := h0.v) (xs := p) (by
    rw [Nat.add_comm, List.getElem?_cons_succ, List.getElem?_append_left (by rw [inner_len h.len]; exact hlt)]
    exact inner_get hhs hj)
  obtain ⟨B, d, hb, hd, hB⟩ := hrow
  refine ⟨cs, g1, ⟨B, d, ?_, hd, hB⟩, g3⟩
  rw [← hb]
  exact g2
theorem C_none {α : Type} {d : Kd α} {w : World} {l : List α} (h : Kd.C d w none l.length l) : l = [] := by
  obtain ⟨_, _, h3⟩ := h
  cases l with
  | nil => rfl
  | cons x l => obtain ⟨ad, h4, _⟩ := h3 (Nat.zero_lt_succ _); cases h4
theorem Mem.row_nil {w0 w : World} {rs : List Res} {α : Type} (h : Mem w0 w rs) (d : Kd α) (e : Nat) : Mem w0 w (row d e (.slice none 0 0) [] :: rs) :=
  h.cons (Below.refl _ _) (Kd.R_nil _ _ _ _ _)
set_option maxRecDepth 100000 in
set_option maxHeartbeats 2000000 in
theorem clone_calls (A : Option Addr) (c : Nat) (l : List SP) (w : World) (hl : Kd.C kP w A l.length l) (hn : l.length ≤ 1000000000) :
    Calls Try.prog 73 #[.slice A l.length c] w fun e w' => ∃ v : Value, e = .returned v ∧ Mem w w' [row kP 41 v l] := by
  have HL := Aside0.mk hl
  have HN := Aside0.mk hn
  have M0 := Aside0.mk (Mem.nil w)
  have hq := fun (w : World) (n c : Nat) => Lib.run_eql_slice_nil (P := Try.prog) w 32 41 A n c 0 0 Try.underlying32
  cases A with
  | none =>
    obtain rfl := C_none hl
    clear hl hn
    go_enter Try.func73, Try.ntmps73
    go_wp2
    go_ret
    exact ⟨_, rfl, Mem.row_nil M0.out _ _⟩
  | some ad =>
    clear hl hn
    go_enter Try.func73, Try.ntmps73
    go_wp2_with (((with_reducible refine gate_builtin (b := .append) (xs := #[.tmp 5, .tmp 6]) rfl ?_); at_builtin; refine Mem.app kP ((M0.out.alloc #[] 41).lit 0 kP [] rfl (Reps.none _ _) (by decide)) 0 _ [] l rfl (.tmp 5) (.tmp 6) 32 41 _ _ rfl Try.underlying32 info41 rfl (by decide) (by omega) (some ad) _ c rfl rfl rfl (Kd.C_alloc HL.out _) (fun x cs h => by obtain rfl := k41_open h; exact k41_mkM _ _ _ x) (by have := HN.out; simp; omega) ?_; intro v1 w1 hM1; have M1 := Aside0.mk hM1; clear hM1))
    go_ret
    exact ⟨_, rfl, M1.out⟩
set_option maxRecDepth 100000 in
set_option maxHeartbeats 4000000 in
theorem copied_calls (A : Option Addr) (c : Nat) (ps : List (List SP)) (w : World) (hl : Kd.C (Kd.slice 41 kP) w A ps.length ps) (hn : ps.length ≤ 1000000) (hp : ∀ p ∈ ps, p.length ≤ 1000000) :
    Calls Try.prog 69 #[.slice A ps.length c] w fun e w' => ∃ (v : Value) (hs : List Hd), e = .returned v ∧ PgM w w' v hs ps [] := by
  have HL := Aside0.mk hl
  have HN := Aside0.mk hn
  have HP := Aside0.mk hp
  have M0 := Aside0.mk (Mem.row_nil (Mem.nil w) kH 32)
  clear hl hn hp
  go_enter Try.func69, Try.ntmps69
  go_wp2_with fail
  go_loopg [3, 5, 8] (ps.length + 1) (fun kq v3 v5 v8 w' => ∃ (k : Nat) (hs : List Hd), v8 = .int .i64 k ∧ Aside0 (k ≤ ps.length ∧ kq = ps.length + 1 - k) ∧ Aside0 (PgM w w' v3 hs (ps.take k) []))
  case atStart => exact ⟨0, [], rfl, ⟨by omega, by omega⟩, ⟨⟨rfl, M0.out⟩⟩⟩
  case round =>
    obtain ⟨k, hs, rfl, HK, M1⟩ := hrel
    clear M0
    by_cases hlt : k < ps.length
    · have hd1 : decide ((k : Int) < (ps.length : Int)) = true := decide_eq_true (by omega)
      have hkb : k < 1000000 := Nat.lt_of_lt_of_le hlt HN.out
      obtain ⟨ad, A0, c0, e, hx, hc0, hC0⟩ := at_L2 HL.out (k : Int) (by omega) (by omega)
      cases e
      have hx2 := (M1.out.mem.below.cell (World.block_lt_of_cell? w _ hx)).trans hx
      have hrd : rd_L2 ps (k : Int) = ps[k] := by unfold rd_L2; simp [List.getD, hlt]
      rw [hrd] at hx2 hc0 hC0
      rw [Int.toNat_natCast] at hx2
      have hi1 : ((k : Int) < (ps.length : Int)) = True := eq_true (by omega)
      have HC0 := Aside0.mk hC0
      clear hx hC0 hrd
      go_wp2_with fail
      refine (clone_calls A0 c0 ps[k] _ (Kd.C_below HC0.out M1.out.mem.below) (Nat.le_trans (HP.out _ (List.getElem_mem hlt)) (by decide))).mono ?_
      rintro e w1 ⟨v, rfl, hM⟩
      obtain ⟨B, d, rfl, hd, _⟩ := hM.row_at 0 rfl
      have M2 := Aside0.mk (M1.out.mem.trans hM)
      clear hM hd
      have M3 := Aside0.mk (M2.out.allocAt #[.slice B ps[k].length d] 32 w1.heap.size rfl)
      go_wp2_with (((with_reducible refine gate_builtin (b := .append) (xs := #[.tmp 12, .tmp 15]) rfl ?_); at_builtin; refine Mem.app kH (Rr := fun x c => x = (⟨B, ps[k].length, d⟩ : Hd) ∧ c = [(⟨B, ps[k].length, d⟩ : Hd).v]) M3.out 2 _ hs [⟨B, ps[k].length, d⟩] rfl (.tmp 12) (.tmp 15) 22 32 _ _ rfl Try.underlying22 info32 rfl (by decide) (by omega) (some ⟨w1.heap.size, 0, none⟩) 1 1 rfl rfl rfl (reads_one (⟨B, ps[k].length, d⟩ : Hd) (M3.out.blk_at 0 rfl) rfl) (fun x c h => by obtain ⟨rfl, rfl⟩ := h; exact flatH.mk_ _ _ _ _) (by have h1 := M1.out.len; rw [List.length_take] at h1; have := HN.out; omega) ?_; intro v1 w2 hM1; have M4 := Aside0.mk hM1; clear hM1))
      go_roundg (ps.length - k)
      case measure => have := HK.out; omega
      case rel =>
        refine ⟨k + 1, hs ++ [⟨B, ps[k].length, d⟩], by go_num, ⟨by omega, by omega⟩, ⟨⟨?_, ?_⟩⟩⟩
        · have h1 := M1.out.len
          rw [List.length_take] at h1
          rw [List.length_append, List.length_take, List.length_singleton]
          omega
        · rw [List.take_succ_eq_append_getElem hlt, inner_snoc M1.out.len, List.append_assoc]
          exact Mem.to_mid (Mem.sel (ps := [_, _, _]) (F := inner hs (ps.take k) ++ []) [2, 1] 3 M4.out rfl rfl)
    · have hd1 : decide ((k : Int) < (ps.length : Int)) = false := decide_eq_false (by omega)
      have hk : k = ps.length := by have := HK.out; omega
      have M2 := M1.out
      rw [hk, List.take_length] at M2
      have M3 := Aside0.mk M2
      clear M2 M1 hk
      go_wp2_with fail
      go_ret
      exact ⟨_, hs, rfl, M3.out⟩
end Go.Proofs.Ytookpmdgoednfaa.Pa
