/- Walks: the reference's Del. -/
import Derived.Test.YtookpmdgoednfaaDl
import Derived.Test.YtookpmdgoednfaaPz
import Derived.Test.YtookpmdgoednfaaPgC0
import Derived.Test.YtookpmdgoednfaaPgD0
namespace Go.Proofs.Ytookpmdgoednfaa.Dr
open Go.RowKit Go.Proofs.YtookpmdgoednfaaW.PrintWords Go.Proofs.YtookpmdgoednfaaW.PrintLast Go.Proofs.YtookpmdgoednfaaW.PrintMore Go.Proofs.Ytookpmdgoednfaa.Mx Go.Proofs.Ytookpmdgoednfaa.PPagePuts Go.Proofs.Ytookpmdgoednfaa.Pa Go.Proofs.Ytookpmdgoednfaa.Dl
set_option linter.unusedVariables false
set_option linter.unusedSimpArgs false
theorem Mem.skip {w0 w : World} {a b : List Res} {x : Res} (h : Mem w0 w (a ++ x :: b)) : Mem w0 w (a ++ b) := by
  refine h.reindex (fun i => if i < a.length then i else i + 1) (fun j => if j < a.length then j else j - 1) (fun i r hi => ?_)
  by_cases hl : i < a.length
  · rw [if_pos hl, if_pos hl]
    rw [List.getElem?_append_left hl] at hi
    exact ⟨by rw [List.getElem?_append_left hl]; exact hi, rfl⟩
  · rw [if_neg hl, if_neg (by omega)]
    rw [List.getElem?_append_right (by omega)] at hi
    refine ⟨?_, by omega⟩
    rw [List.getElem?_append_right (by omega), show i + 1 - a.length = (i - a.length) + 1 by omega, List.getElem?_cons_succ]
    exact hi
theorem hd_read {w0 w : World} {pre : List Res} {hs : List Hd} {ps : List (List SP)} {g m cap : Nat} (h : Mem w0 w (pre ++ (inner hs ps ++ []))) (a : Nat) (ha : pre[a]? = some (row kH 32 (.slice (some ⟨g, 0, none⟩) m cap) hs)) (hl : hs.length = ps.length) (n : Nat) (hn : n < ps.length) :
    ∃ B d, hs[n]? = some ⟨B, (ps.getD n []).length, d⟩ ∧ w.cell? ⟨g, n, none⟩ = some (.slice B (ps.getD n []).length d) ∧ kP.C w B (ps.getD n []).length (ps.getD n []) ∧ (ps.getD n []).length ≤ d := by
  have hnh : n < hs.length := by omega
  have hal : a < pre.length := (List.getElem?_eq_some_iff.1 ha).1
  have e1 : hs[n]? = some hs[n] := List.getElem?_eq_getElem hnh
  have e2 : ps[n]? = some ps[n] := List.getElem?_eq_getElem hn
  have e3 : ps.getD n [] = ps[n] := by simp [List.getD, hn]
  rw [e3]
  obtain ⟨B, d, hv, hd, hC⟩ := h.row_at (pre.length + n) (d := kP) (e := 41) (v := hs[n].v) (xs := ps[n]) (by
    rw [List.getElem?_append_right (by omega), Nat.add_sub_cancel_left, List.getElem?_append_left (by rw [inner_len hl]; exact hn)]
    exact inner_get e1 e2)
  have hk : kH.C w (some ⟨g, 0, none⟩) hs.length hs := h.row_C a (by rw [List.getElem?_append_left hal]; exact ha)
  obtain ⟨_, _, hk3⟩ := hk
  obtain ⟨ad, e, hr⟩ := hk3 (by omega)
  injection e with e
  subst e
  obtain ⟨cs, g1, g2, g3⟩ := hr n hs[n] e1
  have g4 : w.cell? ((⟨g, 0, none⟩ : Addr).add (n * 1 + 0)) = some hs[n].v := g3 0 _ (by rw [flatH.rd_ g2]; rfl)
  rw [add_plain, Nat.mul_one, Nat.add_zero] at g4
  have g5 : hs[n] = ⟨B, ps[n].length, d⟩ := by
    generalize hs[n] = hd at hv
    obtain ⟨a, b, c⟩ := hd
    injection hv with e1 e2 e3
    subst e1; subst e2; subst e3
    rfl
  exact ⟨B, d, by rw [e1, g5], by rw [g4, hv], hC, hd⟩
set_option maxRecDepth 100000 in
set_option maxHeartbeats 8000000 in
theorem copied11_calls (A : Option Addr) (c : Nat) (ps : List (List SP)) (w : World) (hl : Kd.C (Kd.slice 41 kP) w A ps.length ps) (hn : ps.length ≤ 1000000) (hp : ∀ p ∈ ps, p.length ≤ 1000000) :
    Calls Try.prog 79 #[.slice A ps.length c] w fun e w' => ∃ (v : Value) (hs : List Hd), e = .returned v ∧ PgM w w' v hs ps [] := by
  have HL := Aside0.mk hl
  have HN := Aside0.mk hn
  have HP := Aside0.mk hp
  have M0 := Aside0.mk (Mem.row_nil (Mem.nil w) kH 32)
  clear hl hn hp
  go_enter Try.func79, Try.ntmps79
  go_wp2_with fail
  go_loopg [3, 4] (ps.length + 1) (fun kq v3 v4 w' => ∃ (k : Nat) (hs : List Hd), v4 = .int .i64 k ∧ Aside0 (k ≤ ps.length ∧ kq = ps.length + 1 - k) ∧ Aside0 (PgM w w' v3 hs (ps.take k) []))
  case atStart => exact ⟨0, [], rfl, ⟨by omega, by omega⟩, ⟨⟨rfl, M0.out⟩⟩⟩
  case round =>
    obtain ⟨k, hs, rfl, HK, M1⟩ := hrel
    clear M0
    by_cases hlt : k < ps.length
    · have hd1 : decide ((k : Int) < (ps.length : Int)) = true := decide_eq_true (by omega)
      have hkb : k < 1000000 := Nat.lt_of_lt_of_le hlt HN.out
      obtain ⟨ad, A0, c0, e, hx, hc0, hC0⟩ := at_L2 HL.out (k : Int) (by omega) (by omega)
      cases e
      have hx2 := (M1.out.mem.below.cell (World.block_lt_of_cell? w _ hx)).trans hx
      rw [Py.rdL hlt] at hx2 hc0 hC0
      rw [Int.toNat_natCast] at hx2
      have hi1 : ((k : Int) < (ps.length : Int)) = True := eq_true (by omega)
      have HC0 := Aside0.mk hC0
      have HPL := Aside0.mk (HP.out _ (List.getElem_mem hlt))
      obtain ⟨pk, hpk⟩ : ∃ pk, ps[k] = pk := ⟨_, rfl⟩
      rw [hpk] at hx2 hc0 HC0 HPL
      have HPK := Aside0.mk hpk
      clear hx hC0 hpk
      have MA := Aside0.mk ((M1.out.mem.alloc #[] 41).lit 0 kP [] rfl (Reps.none _ _) (by decide))
      have hxl := World.block_lt_of_cell? wr _ hx2
      go_wp2_with (first | ((with_reducible refine gate_builtin (b := .append) (xs := #[.tmp 12, .tmp 16]) rfl ?_); at_builtin; refine Mem.app kP MA.out 0 _ [] pk rfl (.tmp 12) (.tmp 16) 32 41 _ _ rfl Try.underlying32 info41 rfl (by decide) (by omega) A0 _ c0 rfl rfl rfl (Kd.C_alloc (Kd.C_below HC0.out M1.out.mem.below) _) (fun x cs h => by obtain rfl := flatP.rd_ h; exact flatP.mk_ _ _ _ x) (by have := HPL.out; simp; omega) ?_; intro v1 w1 hM1; rw [List.nil_append] at hM1; obtain ⟨B, d, e6, hc6, _⟩ := hM1.row_at 0 rfl; subst e6; have M2 := Aside0.mk hM1; clear hM1 hc6; have M3 := Aside0.mk (M2.out.allocAt #[.slice B pk.length d] 32 w1.heap.size rfl)) | ((with_reducible refine gate_builtin (b := .append) (xs := #[.tmp 11, .tmp 18]) rfl ?_); at_builtin; refine Mem.app kH (Rr := fun x c => x = (⟨B, pk.length, d⟩ : Hd) ∧ c = [(⟨B, pk.length, d⟩ : Hd).v]) M3.out 2 _ hs [⟨B, pk.length, d⟩] rfl (.tmp 11) (.tmp 18) 22 32 _ _ rfl Try.underlying22 info32 rfl (by decide) (by omega) (some ⟨w1.heap.size, 0, none⟩) 1 1 rfl rfl rfl (reads_one (⟨B, pk.length, d⟩ : Hd) (M3.out.blk_at 0 rfl) rfl) (fun x c h => by obtain ⟨rfl, rfl⟩ := h; exact flatH.mk_ _ _ _ _) (by have h1 := M1.out.len; rw [List.length_take] at h1; have := HN.out; omega) ?_; intro v2 w2 hM1; have M4 := Aside0.mk hM1; clear hM1))
      go_roundg (ps.length - k)
      case measure => have := HK.out; omega
      case rel =>
        refine ⟨k + 1, hs ++ [⟨B, pk.length, d⟩], by go_num, ⟨by omega, by omega⟩, ⟨⟨?_, ?_⟩⟩⟩
        · have h1 := M1.out.len
          rw [List.length_take] at h1
          rw [List.length_append, List.length_take, List.length_singleton]
          omega
        · rw [List.take_succ_eq_append_getElem hlt, HPK.out, inner_snoc M1.out.len, List.append_assoc]
          exact Mem.to_mid (Mem.sel (ps := [_, _, _]) (F := inner hs (ps.take k) ++ []) [2, 1] 3 M4.out rfl rfl)
    · have hd1 : decide ((k : Int) < (ps.length : Int)) = false := decide_eq_false (by omega)
      have hk : k = ps.length := by have := HK.out; omega
      have M2 := M1.out
      rw [hk, List.take_length] at M2
      have M3 := Aside0.mk M2
      clear M2 M1 hk
      go_wp2_with fail
      go_ret
      exact ⟨_, hs, rfl, M3.out⟩
theorem PgM.swap {w0 w : World} {v : Value} {hs : List Hd} {ps : List (List SP)} {n : Nat} {hd : Hd} {q : List SP} (hl : hs.length = ps.length) (hn : n < ps.length) (h : Mem w0 w (row kH 32 v (hs.set n hd) :: row kP 41 hd.v q :: (inner hs ps ++ []))) : PgM w0 w v (hs.set n hd) (ps.set n q) [] := by
  have hnh : n < hs.length := by omega
  rw [inner_split hl (List.getElem?_eq_getElem hnh) (List.getElem?_eq_getElem hn), List.append_assoc, List.cons_append] at h
  exact PgM.shut_ hl hn hd q (Mem.skip (a := row kH 32 v (hs.set n hd) :: row kP 41 hd.v q :: inner (hs.take n) (ps.take n)) (b := inner (hs.drop (n + 1)) (ps.drop (n + 1)) ++ []) h)
theorem PgM.join {w0 w : World} {v : Value} {hs : List Hd} {ps : List (List SP)} {f : Nat} {hb : Hd} {pp : List SP} (hl : hs.length = ps.length) (hf : f + 1 < ps.length) (h : Mem w0 w (row kH 32 v (hs.take f ++ hb :: hs.drop (f + 2)) :: row kP 41 hb.v pp :: (inner hs ps ++ []))) : PgM w0 w v (hs.take f ++ hb :: hs.drop (f + 2)) (ps.take f ++ pp :: ps.drop (f + 2)) [] := by
  have hf1 : hs[f]? = some (hs[f]'(by omega)) := List.getElem?_eq_getElem _
  have hp1 : ps[f]? = some (ps[f]'(by omega)) := List.getElem?_eq_getElem _
  have e : inner (hs.drop (f + 1)) (ps.drop (f + 1)) = row kP 41 (hs[f + 1]'(by omega)).v (ps[f + 1]'(by omega)) :: inner (hs.drop (f + 2)) (ps.drop (f + 2)) := by
    rw [List.drop_eq_getElem_cons (by omega : f + 1 < hs.length), List.drop_eq_getElem_cons hf, inner_cons]
  rw [inner_split hl hf1 hp1, List.append_assoc, List.cons_append, e] at h
  have h2 := Mem.skip (a := row kH 32 v (hs.take f ++ hb :: hs.drop (f + 2)) :: row kP 41 hb.v pp :: inner (hs.take f) (ps.take f)) h
  have h3 := Mem.skip (a := row kH 32 v (hs.take f ++ hb :: hs.drop (f + 2)) :: row kP 41 hb.v pp :: inner (hs.take f) (ps.take f)) (b := inner (hs.drop (f + 2)) (ps.drop (f + 2)) ++ []) h2
  refine ⟨?_, ?_⟩
  · simp only [List.length_append, List.length_cons, List.length_take, List.length_drop, hl]
  · rw [inner_app (by rw [List.length_take, List.length_take, hl]), inner_cons, List.append_assoc]
    exact Mem.to_mid (l := inner (hs.take f) (ps.take f)) (F := inner (hs.drop (f + 2)) (ps.drop (f + 2)) ++ []) h3
theorem erase_go {α : Type} {l : List α} {n i : Nat} {x : α} (h : l[i]? = some x) (hne : ¬ i = n) : (l.take (i + 1)).eraseIdx n = (l.take i).eraseIdx n ++ [x] := by
  obtain ⟨hi, rfl⟩ := List.getElem?_eq_some_iff.1 h
  rw [List.take_succ_eq_append_getElem hi]
  rcases Nat.lt_or_ge i n with hlt | hge
  · rw [List.eraseIdx_of_length_le (by simp; omega), List.eraseIdx_of_length_le (by rw [List.length_take]; omega)]
  · rw [List.eraseIdx_append_of_lt_length (by rw [List.length_take]; omega)]
theorem erase_skip {α : Type} {l : List α} {n : Nat} (h : n < l.length) : (l.take (n + 1)).eraseIdx n = (l.take n).eraseIdx n := by
  rw [List.take_succ_eq_append_getElem h, List.eraseIdx_append_of_length_le (by rw [List.length_take]; omega), List.length_take, Nat.min_eq_left (by omega), Nat.sub_self]
  have e : (l.take n).eraseIdx n = l.take n := List.eraseIdx_of_length_le (by rw [List.length_take]; omega)
  rw [e]
  simp
def JO (hs : List Hd) (f : Nat) (hb : Hd) (i : Nat) : List Hd := if i ≤ f then hs.take i else hs.take f ++ hb :: (hs.take i).drop (f + 2)
def JR (f : Nat) (hb : Hd) (pp : List SP) (i : Nat) : Res := if i ≤ f then emp else row kP 41 hb.v pp
theorem JO_lo {hs : List Hd} {f i : Nat} {hb x : Hd} (h : hs[i]? = some x) (hi : i < f) : JO hs f hb (i + 1) = JO hs f hb i ++ [x] := by
  obtain ⟨hl, rfl⟩ := List.getElem?_eq_some_iff.1 h
  unfold JO
  rw [if_pos (by omega), if_pos (by omega), List.take_succ_eq_append_getElem hl]
theorem JO_at {hs : List Hd} {f : Nat} {hb hb' : Hd} : JO hs f hb' (f + 1) = JO hs f hb f ++ [hb'] := by
  unfold JO
  rw [if_neg (by omega), if_pos (Nat.le_refl _), List.drop_eq_nil_of_le (by rw [List.length_take]; omega)]
theorem JO_skip {hs : List Hd} {f : Nat} {hb : Hd} : JO hs f hb (f + 1 + 1) = JO hs f hb (f + 1) := by
  unfold JO
  rw [if_neg (by omega), if_neg (by omega), List.drop_eq_nil_of_le (by rw [List.length_take]; omega), List.drop_eq_nil_of_le (by rw [List.length_take]; omega)]
theorem JO_hi {hs : List Hd} {f i : Nat} {hb x : Hd} (h : hs[i]? = some x) (hi : f + 1 < i) : JO hs f hb (i + 1) = JO hs f hb i ++ [x] := by
  obtain ⟨hl, rfl⟩ := List.getElem?_eq_some_iff.1 h
  unfold JO
  rw [if_neg (by omega), if_neg (by omega), List.take_succ_eq_append_getElem hl, List.drop_append_of_le_length (by rw [List.length_take]; omega), List.append_assoc, List.cons_append]
theorem JO_end {hs : List Hd} {f i : Nat} {hb : Hd} (hi : i = hs.length) (hf : f < i) : JO hs f hb i = hs.take f ++ hb :: hs.drop (f + 2) := by
  unfold JO
  rw [if_neg (by omega), hi, List.take_length]
theorem JO_len (hs : List Hd) (f : Nat) (hb : Hd) (i : Nat) : (JO hs f hb i).length ≤ i + f + 1 := by
  unfold JO
  split
  · rw [List.length_take]; omega
  · rw [List.length_append, List.length_cons, List.length_take, List.length_drop, List.length_take]; omega
set_option maxRecDepth 100000 in
set_option maxHeartbeats 8000000 in
theorem D11_not (A : Option Addr) (c : Nat) (ps : List (List SP)) (key : ByteArray) (w : World) (hl : Kd.C (Kd.slice 41 kP) w A ps.length ps) (hc : ps.length ≤ c) (hn : ps.length ≤ 100000) (hpp : ∀ p ∈ ps, p.length ≤ 100000) (k0 : Nat) (hR : falseworkref7_Right.f k0 ps = some false) :
    Calls Try.prog 33 #[.slice A ps.length c, .string key] w fun e w' => ∃ (v : Value) (hs : List Hd), e = .returned v ∧ PgM w w' v hs [] [] := by
  have HL := Aside0.mk hl
  have HC := Aside0.mk hc
  have HR := Aside0.mk hR
  have M0 := Aside0.mk (PgM.nil w)
  clear hl hc hR hpp
  go_enter Try.func33, Try.ntmps33
  go_wp2_with fail
  refine (falseworkref7_Right.calls k0 A c ps false _ HL.out HC.out HR.out).mono ?_
  rintro e w1 ⟨rfl, hD⟩
  have M1 := Aside0.mk (M0.out.grow hD.below)
  clear hD
  go_wp2
  go_ret
  exact ⟨_, [], rfl, M1.out⟩
set_option maxRecDepth 100000 in
set_option maxHeartbeats 8000000 in
theorem D11_away (A : Option Addr) (c : Nat) (ps : List (List SP)) (key : ByteArray) (w : World) (hl : Kd.C (Kd.slice 41 kP) w A ps.length ps) (hc : ps.length ≤ c) (hn : ps.length ≤ 100000) (hpp : ∀ p ∈ ps, p.length ≤ 100000) (k0 k1 : Nat) (gv : ByteArray) (hR : falseworkref7_Right.f k0 ps = some true) (hG : falseworkref7_Get.f k1 ps key = some (gv, false)) :
    Calls Try.prog 33 #[.slice A ps.length c, .string key] w fun e w' => ∃ (v : Value) (hs : List Hd), e = .returned v ∧ PgM w w' v hs ps [] := by
  have HL := Aside0.mk hl
  have HC := Aside0.mk hc
  have HR := Aside0.mk hR
  have HG := Aside0.mk hG
  have HN := Aside0.mk hn
  have HPP := Aside0.mk hpp
  have M0 := Aside0.mk (Mem.nil w)
  clear hl hc hR hpp hG
  go_enter Try.func33, Try.ntmps33
  go_wp2_with fail
  refine (falseworkref7_Right.calls k0 A c ps true _ HL.out HC.out HR.out).mono ?_
  rintro e w1 ⟨rfl, hD⟩
  have M1 := Aside0.mk (M0.out.drawn hD)
  clear hD
  go_wp2_with fail
  refine (falseworkref7_Get.calls k1 A c ps key gv false _ (Kd.C_below HL.out M1.out.below) HC.out HG.out).mono ?_
  rintro e w2 ⟨rfl, hD⟩
  have M2 := Aside0.mk (M1.out.drawn hD)
  clear hD M1 M0
  go_wp2_with fail
  refine (copied11_calls A c ps _ (Kd.C_below HL.out M2.out.below) (by omega) (fun q hq => by have := HPP.out q hq; omega)).mono ?_
  rintro e w3 ⟨v, hs, rfl, hM⟩
  have M3 := Aside0.mk (show PgM w w3 v hs ps [] from ⟨hM.len, (M2.out.trans hM.mem).reindex id id (fun j r hj => ⟨by simpa using hj, rfl⟩)⟩)
  clear hM
  go_wp2_with fail
  go_ret
  exact ⟨_, hs, rfl, M3.out⟩
theorem take_go {α : Type} {l : List α} {i : Nat} {x : α} (h : l[i]? = some x) : l.take (i + 1) = l.take i ++ [x] := by
  obtain ⟨hi, rfl⟩ := List.getElem?_eq_some_iff.1 h
  exact List.take_succ_eq_append_getElem hi
set_option maxRecDepth 100000 in
set_option maxHeartbeats 8000000 in
theorem D11_gone (A : Option Addr) (c : Nat) (ps : List (List SP)) (key : ByteArray) (w : World) (hl : Kd.C (Kd.slice 41 kP) w A ps.length ps) (hc : ps.length ≤ c) (hn : ps.length ≤ 100000) (hpp : ∀ p ∈ ps, p.length ≤ 100000) (k0 k1 k2 k3 : Nat) (gv : ByteArray) (hR : falseworkref7_Right.f k0 ps = some true) (hG : falseworkref7_Get.f k1 ps key = some (gv, true)) (n : Nat) (hnk : n < ps.length) (hO : falseworkref7_of.f k2 ps key = some (n : Int)) (p q : List SP) (hp : ps.getD n [] = p) (hW : falseworkref7_without.f k3 p key = some q) (P : List (List SP)) (hP0 : ps.set n q = P) (hq : q.length = 0) (hpos : ∀ j, j < P.length → ¬ j = n → 0 < (P.getD j []).length) :
    Calls Try.prog 33 #[.slice A ps.length c, .string key] w fun e w' => ∃ (v : Value) (hs : List Hd), e = .returned v ∧ PgM w w' v hs (P.take n ++ P.drop (n + 1)) [] := by
  have HQL := Aside0.mk hq
  have HPOS := Aside0.mk hpos
  clear hq hpos
  have HL := Aside0.mk hl
  have HC := Aside0.mk hc
  have HR := Aside0.mk hR
  have HG := Aside0.mk hG
  have HN := Aside0.mk hn
  have HPP := Aside0.mk hpp
  have M0 := Aside0.mk (Mem.nil w)
  have HO := Aside0.mk hO
  have HP := Aside0.mk hp
  have HW := Aside0.mk hW
  have HPP0 := Aside0.mk hP0
  have hnb : n < 1000000 := by omega
  clear hl hc hR hpp hG hO hp hW hP0 hn
  go_enter Try.func33, Try.ntmps33
  go_wp2_with fail
  refine (falseworkref7_Right.calls k0 A c ps true _ HL.out HC.out HR.out).mono ?_
  rintro e w1 ⟨rfl, hD⟩
  have M1 := Aside0.mk (M0.out.drawn hD)
  clear hD
  go_wp2_with fail
  refine (falseworkref7_Get.calls k1 A c ps key gv true _ (Kd.C_below HL.out M1.out.below) HC.out HG.out).mono ?_
  rintro e w2 ⟨rfl, hD⟩
  have M2 := Aside0.mk (M1.out.drawn hD)
  clear hD M1 M0
  go_wp2_with fail
  refine (copied11_calls A c ps _ (Kd.C_below HL.out M2.out.below) (by have := HN.out; omega) (fun q hq => by have := HPP.out q hq; omega)).mono ?_
  rintro e w3 ⟨v, hs, rfl, hM⟩
  have ME := hM.mem
  have hml := hM.len
  obtain ⟨g, d, rfl, _, hg, _⟩ := Kd.R_form (ME.hold (i := 0) rfl) (by omega : 0 < hs.length)
  rw [hml] at ME
  have HML := Aside0.mk hml
  have M3 := Aside0.mk (show Mem w w3 ([row kH 32 (.slice (some ⟨g, 0, none⟩) ps.length d) hs] ++ (inner hs ps ++ [])) from (M2.out.trans ME).reindex id id (fun j r hj => ⟨by simpa using hj, rfl⟩))
  rw [hml]
  clear hM ME M2 hml
  go_wp2_with fail
  refine (falseworkref7_of.calls k2 A c ps key n _ (Kd.C_below HL.out M3.out.below) HC.out HO.out).mono ?_
  rintro e w4 ⟨rfl, hD⟩
  have M4 := Aside0.mk (M3.out.drawn hD)
  clear hD M3
  have hi1 : ((n : Int) < (ps.length : Int)) = True := eq_true (by omega)
  obtain ⟨B, d1, hh, hx, hC, hd1⟩ := hd_read (pre := [_]) M4.out 0 rfl HML.out n hnk
  rw [HP.out] at hh hx hC hd1
  have HCP := Aside0.mk hC
  have HD1 := Aside0.mk hd1
  have hg4 := World.block_lt_of_cell? w4 _ hx
  clear hC hd1 hh hg
  go_wp2_with fail
  refine (falseworkref7_without.calls k3 B d1 p key q _ HCP.out HD1.out HW.out).mono ?_
  rintro e w5 ⟨v', rfl, hR5, hb5⟩
  have M5 := Aside0.mk (M4.out.fresh hb5 hR5)
  obtain ⟨B2, d2, rfl, _, _⟩ := M5.out.row_at 0 rfl
  clear hR5 hb5 hx hg4
  obtain ⟨k1', k2', k3', k4'⟩ := Mem.hd_cell' M5.out 1 rfl n hnk
  obtain ⟨ov, k0'⟩ := Option.isSome_iff_exists.1 k1'
  have K4 := Aside0.mk k4'
  clear k1' k4'
  go_upto_region 9 with (fail)
  have M8 := Aside0.mk (PgM.swap HML.out hnk (hd := ⟨B2, q.length, d2⟩) (Mem.sel (ps := [_, _]) (F := inner hs ps ++ []) [1, 0] 2 (K4.out ⟨B2, q.length, d2⟩) rfl rfl))
  obtain ⟨wx, hwx⟩ : ∃ wx, w5.setCell ⟨g, n, none⟩ (Hd.v ⟨B2, q.length, d2⟩) = wx := ⟨_, rfl⟩
  rw [hwx] at M8
  change w5.setCell ⟨g, n, none⟩ (.slice B2 q.length d2) = wx at hwx
  rw [hwx]
  rw [HPP0.out] at M8
  have M9 := M8
  clear M8 M5 M4 K4 k0' k2' k3' hwx
  obtain ⟨hs2, hhs2⟩ : ∃ hs2, hs.set n ⟨B2, q.length, d2⟩ = hs2 := ⟨_, rfl⟩
  rw [hhs2] at M9
  have hPl : P.length = ps.length := by rw [← HPP0.out, List.length_set]
  have hPn : P.getD n [] = q := by rw [← HPP0.out]; simp [List.getD, hnk]
  obtain ⟨B3, d3, hcn, _⟩ := PgM.cell M9.out n (by omega)
  rw [hPn] at hcn
  have HPL2 := Aside0.mk hPl
  have HPN := Aside0.mk hPn
  clear hPn hPl hhs2
  have hql : (q.length : Int) = 0 := by have := HQL.out; omega
  have hql2 : ((q.length : Int) == 0) = true := by simp [hql]
  have MM := Aside0.mk (Mem.row_nil M9.out.mem kH 32)
  have HHL := Aside0.mk (show hs2.length = P.length from M9.out.len)
  go_upto_region 18 with (fail)
  clear hcn
  go_wp2_with fail
  go_loopg [11, 12, 13] (ps.length + 1) (fun kq v11 v12 v13 w' => ∃ (i : Nat) (hsO : List Hd), v12 = .int .i64 i ∧ Aside0 (i ≤ ps.length ∧ kq = ps.length + 1 - i) ∧ Aside0 (hsO = (hs2.take i).eraseIdx n) ∧ Aside0 (Mem w w' ([row kH 32 v11 hsO, row kH 32 (.slice (some ⟨g, 0, none⟩) ps.length d) hs2] ++ (inner hs2 P ++ []))))
  case atStart => exact ⟨0, [], rfl, ⟨by omega, by omega⟩, ⟨by simp⟩, MM⟩
  case round =>
    obtain ⟨i, hsO, rfl, HK, HS, M1⟩ := hrel
    clear MM M9
    by_cases hlt : i < ps.length
    · have hd1 : decide ((i : Int) < (ps.length : Int)) = true := decide_eq_true (by omega)
      have hib : i < 1000000 := by have := HN.out; omega
      obtain ⟨B6, d6, hh6, hx6, hC6, hd6⟩ := hd_read (pre := [_, _]) M1.out 1 rfl HHL.out i (by have := HPL2.out; omega)
      have hgx := World.block_lt_of_cell? wr _ hx6
      have hij : ((i : Int) < (ps.length : Int)) = True := eq_true (by omega)
      have HSL := Aside0.mk (show hsO.length ≤ 1000000 by rw [HS.out]; have : (hs2.take i).length ≤ i := List.length_take_le _ _; have := List.length_eraseIdx_le (hs2.take i) n; omega)
      obtain ⟨pl, hpl⟩ : ∃ pl, (P.getD i []).length = pl := ⟨_, rfl⟩
      rw [hpl] at hh6 hx6
      have HPLL := Aside0.mk hpl
      clear hC6 hd6 hpl
      rcases Nat.lt_trichotomy i n with hc | hc | hc
      · have hc1 : ((i : Int) == (n : Int)) = false := beq_eq_false_iff_ne.mpr (by omega)
        have hc1a : (i == n) = false := beq_eq_false_iff_ne.mpr (by omega)
        have hc1b : ¬ i = n := by omega
        have hc2 : decide ((i : Int) < (n : Int)) = true := decide_eq_true (by omega)
        have hc2a : decide (i < n) = true := decide_eq_true (by omega)
        have HNE := Aside0.mk (show ¬ i = n by omega)
        have hp0 : 0 < pl := by rw [← HPLL.out]; exact HPOS.out i (by have := HPL2.out; omega) (by omega)
        have hp1 : decide (0 < (pl : Int)) = true := decide_eq_true (by omega)
        clear hc
        have MB := Aside0.mk (M1.out.allocAt #[.slice B6 pl d6] 32 wr.heap.size rfl)
        go_wp2_with (((with_reducible refine gate_builtin (b := .append) (xs := #[.tmp 148, .tmp 153]) rfl ?_); at_builtin; refine Mem.app kH (Rr := fun x c => x = (⟨B6, pl, d6⟩ : Hd) ∧ c = [(⟨B6, pl, d6⟩ : Hd).v]) MB.out 1 _ hsO [⟨B6, pl, d6⟩] rfl (.tmp 148) (.tmp 153) 22 32 _ _ rfl Try.underlying22 info32 rfl (by decide) (by omega) (some ⟨wr.heap.size, 0, none⟩) 1 1 rfl rfl rfl (reads_one (⟨B6, pl, d6⟩ : Hd) (MB.out.blk_at 0 rfl) rfl) (fun x c h => by obtain ⟨rfl, rfl⟩ := h; exact flatH.mk_ _ _ _ _) (by have := HSL.out; omega) ?_; intro v2 w2 hM1; have M4 := Aside0.mk hM1; clear hM1))
        go_roundg (ps.length - i)
        case measure => have := HK.out; omega
        case rel => exact ⟨i + 1, hsO ++ [(⟨B6, pl, d6⟩ : Hd)], by go_num, ⟨by omega, by omega⟩, ⟨by rw [HS.out]; exact (erase_go hh6 HNE.out).symm⟩, ⟨Mem.sel (ps := [_, _, _]) (F := inner hs2 P ++ []) [1, 2] 3 M4.out rfl rfl⟩⟩
      · subst hc
        have hc1 : ((i : Int) == (i : Int)) = true := by simp
        have hc2 : decide ((i : Int) < (i : Int)) = false := decide_eq_false (by omega)
        have hp0 : pl = 0 := by rw [← HPLL.out, HPN.out]; exact HQL.out
        have hp1 : decide (0 < (pl : Int)) = false := decide_eq_false (by omega)
        have HIL := Aside0.mk (show i < hs2.length by have := HHL.out; have := HPL2.out; omega)
        go_wp2_with fail
        go_roundg (ps.length - i)
        case measure => have := HK.out; omega
        case rel => exact ⟨i + 1, hsO, by go_num, ⟨by omega, by omega⟩, ⟨by rw [HS.out]; exact (erase_skip HIL.out).symm⟩, M1⟩
      · have hc1 : ((i : Int) == (n : Int)) = false := beq_eq_false_iff_ne.mpr (by omega)
        have hc1a : (i == n) = false := beq_eq_false_iff_ne.mpr (by omega)
        have hc1b : ¬ i = n := by omega
        have hc2 : decide ((i : Int) < (n : Int)) = false := decide_eq_false (by omega)
        have hc2a : decide (i < n) = false := decide_eq_false (by omega)
        have hc3 : decide ((n : Int) < (i : Int)) = true := decide_eq_true (by omega)
        have hc3a : decide (n < i) = true := decide_eq_true (by omega)
        have HNE := Aside0.mk (show ¬ i = n by omega)
        have hp0 : 0 < pl := by rw [← HPLL.out]; exact HPOS.out i (by have := HPL2.out; omega) (by omega)
        have hp1 : decide (0 < (pl : Int)) = true := decide_eq_true (by omega)
        clear hc
        have MB := Aside0.mk (M1.out.allocAt #[.slice B6 pl d6] 32 wr.heap.size rfl)
        go_wp2_with (((with_reducible refine gate_builtin (b := .append) (xs := #[.tmp 148, .tmp 153]) rfl ?_); at_builtin; refine Mem.app kH (Rr := fun x c => x = (⟨B6, pl, d6⟩ : Hd) ∧ c = [(⟨B6, pl, d6⟩ : Hd).v]) MB.out 1 _ hsO [⟨B6, pl, d6⟩] rfl (.tmp 148) (.tmp 153) 22 32 _ _ rfl Try.underlying22 info32 rfl (by decide) (by omega) (some ⟨wr.heap.size, 0, none⟩) 1 1 rfl rfl rfl (reads_one (⟨B6, pl, d6⟩ : Hd) (MB.out.blk_at 0 rfl) rfl) (fun x c h => by obtain ⟨rfl, rfl⟩ := h; exact flatH.mk_ _ _ _ _) (by have := HSL.out; omega) ?_; intro v2 w2 hM1; have M4 := Aside0.mk hM1; clear hM1))
        go_roundg (ps.length - i)
        case measure => have := HK.out; omega
        case rel => exact ⟨i + 1, hsO ++ [(⟨B6, pl, d6⟩ : Hd)], by go_num, ⟨by omega, by omega⟩, ⟨by rw [HS.out]; exact (erase_go hh6 HNE.out).symm⟩, ⟨Mem.sel (ps := [_, _, _]) (F := inner hs2 P ++ []) [1, 2] 3 M4.out rfl rfl⟩⟩
    · have hd1 : decide ((i : Int) < (ps.length : Int)) = false := decide_eq_false (by omega)
      have hk : i = ps.length := by have := HK.out; omega
      have hs3 := HS.out
      rw [List.take_of_length_le (by have := HHL.out; have := HPL2.out; omega)] at hs3
      have M3 := Aside0.mk M1.out
      subst hsO
      clear M1 hk HS
      go_wp2_with fail
      go_ret
      exact ⟨_, _, rfl, PgM.drop1 HHL.out (by have := HPL2.out; omega) rfl (Mem.sel (ps := [_, _]) (F := inner hs2 P ++ []) [0] 2 M3.out rfl rfl)⟩
set_option maxRecDepth 100000 in
set_option maxHeartbeats 8000000 in
theorem D11_keep_mid (A : Option Addr) (c : Nat) (ps : List (List SP)) (key : ByteArray) (w : World) (hl : Kd.C (Kd.slice 41 kP) w A ps.length ps) (hc : ps.length ≤ c) (hn : ps.length ≤ 100000) (hpp : ∀ p ∈ ps, p.length ≤ 100000) (k0 k1 k2 k3 : Nat) (gv : ByteArray) (hR : falseworkref7_Right.f k0 ps = some true) (hG : falseworkref7_Get.f k1 ps key = some (gv, true)) (n : Nat) (hnk : n < ps.length) (hO : falseworkref7_of.f k2 ps key = some (n : Int)) (p q : List SP) (hp : ps.getD n [] = p) (hW : falseworkref7_without.f k3 p key = some q) (P : List (List SP)) (hP0 : ps.set n q = P) (hq : 0 < q.length) (hpos : ∀ j, j < P.length → 0 < (P.getD j []).length) (hone : ∀ j, (P.getD j []).length ≤ 1000000) (hmode : n + 1 < ps.length) (hsum : 4 < q.length + (P.getD (n + 1) []).length) :
    Calls Try.prog 33 #[.slice A ps.length c, .string key] w fun e w' => ∃ (v : Value) (hs : List Hd), e = .returned v ∧ PgM w w' v hs (P) [] := by
  have HQL := Aside0.mk hq
  have HPOS := Aside0.mk hpos
  have HMODE := Aside0.mk hmode
  have HONE := Aside0.mk hone
  have HSUM := Aside0.mk hsum
  clear hsum
  clear hq hpos hmode hone
  have HL := Aside0.mk hl
  have HC := Aside0.mk hc
  have HR := Aside0.mk hR
  have HG := Aside0.mk hG
  have HN := Aside0.mk hn
  have HPP := Aside0.mk hpp
  have M0 := Aside0.mk (Mem.nil w)
  have HO := Aside0.mk hO
  have HP := Aside0.mk hp
  have HW := Aside0.mk hW
  have HPP0 := Aside0.mk hP0
  have hnb : n < 1000000 := by omega
  clear hl hc hR hpp hG hO hp hW hP0 hn
  go_enter Try.func33, Try.ntmps33
  go_wp2_with fail
  refine (falseworkref7_Right.calls k0 A c ps true _ HL.out HC.out HR.out).mono ?_
  rintro e w1 ⟨rfl, hD⟩
  have M1 := Aside0.mk (M0.out.drawn hD)
  clear hD
  go_wp2_with fail
  refine (falseworkref7_Get.calls k1 A c ps key gv true _ (Kd.C_below HL.out M1.out.below) HC.out HG.out).mono ?_
  rintro e w2 ⟨rfl, hD⟩
  have M2 := Aside0.mk (M1.out.drawn hD)
  clear hD M1 M0
  go_wp2_with fail
  refine (copied11_calls A c ps _ (Kd.C_below HL.out M2.out.below) (by have := HN.out; omega) (fun q hq => by have := HPP.out q hq; omega)).mono ?_
  rintro e w3 ⟨v, hs, rfl, hM⟩
  have ME := hM.mem
  have hml := hM.len
  obtain ⟨g, d, rfl, _, hg, _⟩ := Kd.R_form (ME.hold (i := 0) rfl) (by omega : 0 < hs.length)
  rw [hml] at ME
  have HML := Aside0.mk hml
  have M3 := Aside0.mk (show Mem w w3 ([row kH 32 (.slice (some ⟨g, 0, none⟩) ps.length d) hs] ++ (inner hs ps ++ [])) from (M2.out.trans ME).reindex id id (fun j r hj => ⟨by simpa using hj, rfl⟩))
  rw [hml]
  clear hM ME M2 hml
  go_wp2_with fail
  refine (falseworkref7_of.calls k2 A c ps key n _ (Kd.C_below HL.out M3.out.below) HC.out HO.out).mono ?_
  rintro e w4 ⟨rfl, hD⟩
  have M4 := Aside0.mk (M3.out.drawn hD)
  clear hD M3
  have hi1 : ((n : Int) < (ps.length : Int)) = True := eq_true (by omega)
  obtain ⟨B, d1, hh, hx, hC, hd1⟩ := hd_read (pre := [_]) M4.out 0 rfl HML.out n hnk
  rw [HP.out] at hh hx hC hd1
  have HCP := Aside0.mk hC
  have HD1 := Aside0.mk hd1
  have hg4 := World.block_lt_of_cell? w4 _ hx
  clear hC hd1 hh hg
  go_wp2_with fail
  refine (falseworkref7_without.calls k3 B d1 p key q _ HCP.out HD1.out HW.out).mono ?_
  rintro e w5 ⟨v', rfl, hR5, hb5⟩
  have M5 := Aside0.mk (M4.out.fresh hb5 hR5)
  obtain ⟨B2, d2, rfl, _, _⟩ := M5.out.row_at 0 rfl
  clear hR5 hb5 hx hg4
  obtain ⟨k1', k2', k3', k4'⟩ := Mem.hd_cell' M5.out 1 rfl n hnk
  obtain ⟨ov, k0'⟩ := Option.isSome_iff_exists.1 k1'
  have K4 := Aside0.mk k4'
  clear k1' k4'
  go_upto_region 9 with (fail)
  have M8 := Aside0.mk (PgM.swap HML.out hnk (hd := ⟨B2, q.length, d2⟩) (Mem.sel (ps := [_, _]) (F := inner hs ps ++ []) [1, 0] 2 (K4.out ⟨B2, q.length, d2⟩) rfl rfl))
  obtain ⟨wx, hwx⟩ : ∃ wx, w5.setCell ⟨g, n, none⟩ (Hd.v ⟨B2, q.length, d2⟩) = wx := ⟨_, rfl⟩
  rw [hwx] at M8
  change w5.setCell ⟨g, n, none⟩ (.slice B2 q.length d2) = wx at hwx
  rw [hwx]
  rw [HPP0.out] at M8
  have M9 := M8
  clear M8 M5 M4 K4 k0' k2' k3' hwx
  obtain ⟨hs2, hhs2⟩ : ∃ hs2, hs.set n ⟨B2, q.length, d2⟩ = hs2 := ⟨_, rfl⟩
  rw [hhs2] at M9
  have hPl : P.length = ps.length := by rw [← HPP0.out, List.length_set]
  have hPn : P.getD n [] = q := by rw [← HPP0.out]; simp [List.getD, hnk]
  obtain ⟨B3, d3, hcn, _⟩ := PgM.cell M9.out n (by omega)
  rw [hPn] at hcn
  have HPL2 := Aside0.mk hPl
  have HPN := Aside0.mk hPn
  clear hPn hPl hhs2
  have hql : ¬ (q.length : Int) = 0 := by have := HQL.out; omega
  have hql2 : ((q.length : Int) == 0) = false := beq_eq_false_iff_ne.mpr hql
  have hf1 : decide ((n : Int) + 1 < (ps.length : Int)) = true := decide_eq_true (by have := HMODE.out; omega)
  obtain ⟨B5, d5, hc5, _⟩ := PgM.cell M9.out (n + 1) (by have := HMODE.out; have := HPL2.out; omega)
  have hfl2 : ((n : Int) + 1 < (ps.length : Int)) = True := eq_true (by have := HMODE.out; omega)
  obtain ⟨pg, hpg⟩ : ∃ pg, (P.getD (n + 1) []).length = pg := ⟨_, rfl⟩
  have hpgb : pg ≤ 1000000 := by rw [← hpg]; exact HONE.out _
  have hqb : q.length ≤ 1000000 := by have := HONE.out n; rw [HPN.out] at this; exact this
  rw [hpg] at hc5
  have HPG := Aside0.mk hpg
  clear hpg
  go_upto_region 12 with (fail)
  have hs4 : decide ((q.length : Int) + (pg : Int) ≤ 4) = false := decide_eq_false (by have h5 := HSUM.out; rw [HPG.out] at h5; omega)
  go_quiet (fail)
  have MM := Aside0.mk (Mem.row_nil M9.out.mem kH 32)
  have HHL := Aside0.mk (show hs2.length = P.length from M9.out.len)
  go_upto_region 18 with (fail)
  clear hcn hc5
  go_wp2_with fail
  go_loopg [11, 12, 13] (ps.length + 1) (fun kq v11 v12 v13 w' => ∃ (i : Nat) (hsO : List Hd), v12 = .int .i64 i ∧ Aside0 (i ≤ ps.length ∧ kq = ps.length + 1 - i) ∧ Aside0 (hsO = hs2.take i) ∧ Aside0 (Mem w w' ([row kH 32 v11 hsO, row kH 32 (.slice (some ⟨g, 0, none⟩) ps.length d) hs2] ++ (inner hs2 P ++ []))))
  case atStart => exact ⟨0, [], rfl, ⟨by omega, by omega⟩, ⟨by simp⟩, ⟨MM.out.drewN _⟩⟩
  case round =>
    obtain ⟨i, hsO, rfl, HK, HS, M1⟩ := hrel
    clear MM M9
    by_cases hlt : i < ps.length
    · have hd1 : decide ((i : Int) < (ps.length : Int)) = true := decide_eq_true (by omega)
      have hib : i < 1000000 := by have := HN.out; omega
      obtain ⟨B6, d6, hh6, hx6, hC6, hd6⟩ := hd_read (pre := [_, _]) M1.out 1 rfl HHL.out i (by have := HPL2.out; omega)
      have hgx := World.block_lt_of_cell? wr _ hx6
      have hij : ((i : Int) < (ps.length : Int)) = True := eq_true (by omega)
      have HSL := Aside0.mk (show hsO.length ≤ 1000000 by rw [HS.out]; have : (hs2.take i).length ≤ i := List.length_take_le _ _; omega)
      obtain ⟨pl, hpl⟩ : ∃ pl, (P.getD i []).length = pl := ⟨_, rfl⟩
      rw [hpl] at hh6 hx6
      have HPLL := Aside0.mk hpl
      clear hC6 hd6 hpl
      rcases Nat.lt_trichotomy i n with hc | hc | hc
      · have hc1 : ((i : Int) == (n : Int)) = false := beq_eq_false_iff_ne.mpr (by omega)
        have hc1a : (i == n) = false := beq_eq_false_iff_ne.mpr (by omega)
        have hc1b : ¬ i = n := by omega
        have hc2 : decide ((i : Int) < (n : Int)) = true := decide_eq_true (by omega)
        have hc2a : decide (i < n) = true := decide_eq_true (by omega)
        have HNE := Aside0.mk (show ¬ i = n by omega)
        have hp0 : 0 < pl := by rw [← HPLL.out]; exact HPOS.out i (by have := HPL2.out; omega)
        have hp1 : decide (0 < (pl : Int)) = true := decide_eq_true (by omega)
        clear hc
        have MB := Aside0.mk (M1.out.allocAt #[.slice B6 pl d6] 32 wr.heap.size rfl)
        go_wp2_with (((with_reducible refine gate_builtin (b := .append) (xs := #[.tmp 148, .tmp 153]) rfl ?_); at_builtin; refine Mem.app kH (Rr := fun x c => x = (⟨B6, pl, d6⟩ : Hd) ∧ c = [(⟨B6, pl, d6⟩ : Hd).v]) MB.out 1 _ hsO [⟨B6, pl, d6⟩] rfl (.tmp 148) (.tmp 153) 22 32 _ _ rfl Try.underlying22 info32 rfl (by decide) (by omega) (some ⟨wr.heap.size, 0, none⟩) 1 1 rfl rfl rfl (reads_one (⟨B6, pl, d6⟩ : Hd) (MB.out.blk_at 0 rfl) rfl) (fun x c h => by obtain ⟨rfl, rfl⟩ := h; exact flatH.mk_ _ _ _ _) (by have := HSL.out; omega) ?_; intro v2 w2 hM1; have M4 := Aside0.mk hM1; clear hM1))
        go_roundg (ps.length - i)
        case measure => have := HK.out; omega
        case rel => exact ⟨i + 1, hsO ++ [(⟨B6, pl, d6⟩ : Hd)], by go_num, ⟨by omega, by omega⟩, ⟨by rw [HS.out]; exact (take_go hh6).symm⟩, ⟨Mem.sel (ps := [_, _, _]) (F := inner hs2 P ++ []) [1, 2] 3 M4.out rfl rfl⟩⟩
      · subst hc
        have hc1 : ((i : Int) == (i : Int)) = true := by simp
        have hc2 : decide ((i : Int) < (i : Int)) = false := decide_eq_false (by omega)
        have hp0 : 0 < pl := by rw [← HPLL.out]; exact HPOS.out i (by have := HPL2.out; omega)
        have hp1 : decide (0 < (pl : Int)) = true := decide_eq_true (by omega)
        have MB := Aside0.mk (M1.out.allocAt #[.slice B6 pl d6] 32 wr.heap.size rfl)
        go_wp2_with (((with_reducible refine gate_builtin (b := .append) (xs := #[.tmp 148, .tmp 153]) rfl ?_); at_builtin; refine Mem.app kH (Rr := fun x c => x = (⟨B6, pl, d6⟩ : Hd) ∧ c = [(⟨B6, pl, d6⟩ : Hd).v]) MB.out 1 _ hsO [⟨B6, pl, d6⟩] rfl (.tmp 148) (.tmp 153) 22 32 _ _ rfl Try.underlying22 info32 rfl (by decide) (by omega) (some ⟨wr.heap.size, 0, none⟩) 1 1 rfl rfl rfl (reads_one (⟨B6, pl, d6⟩ : Hd) (MB.out.blk_at 0 rfl) rfl) (fun x c h => by obtain ⟨rfl, rfl⟩ := h; exact flatH.mk_ _ _ _ _) (by have := HSL.out; omega) ?_; intro v2 w2 hM1; have M4 := Aside0.mk hM1; clear hM1))
        go_roundg (ps.length - i)
        case measure => have := HK.out; omega
        case rel => exact ⟨i + 1, hsO ++ [(⟨B6, pl, d6⟩ : Hd)], by go_num, ⟨by omega, by omega⟩, ⟨by rw [HS.out]; exact (take_go hh6).symm⟩, ⟨Mem.sel (ps := [_, _, _]) (F := inner hs2 P ++ []) [1, 2] 3 M4.out rfl rfl⟩⟩
      · have hc1 : ((i : Int) == (n : Int)) = false := beq_eq_false_iff_ne.mpr (by omega)
        have hc1a : (i == n) = false := beq_eq_false_iff_ne.mpr (by omega)
        have hc1b : ¬ i = n := by omega
        have hc2 : decide ((i : Int) < (n : Int)) = false := decide_eq_false (by omega)
        have hc2a : decide (i < n) = false := decide_eq_false (by omega)
        have hc3 : decide ((n : Int) < (i : Int)) = true := decide_eq_true (by omega)
        have hc3a : decide (n < i) = true := decide_eq_true (by omega)
        have HNE := Aside0.mk (show ¬ i = n by omega)
        have hp0 : 0 < pl := by rw [← HPLL.out]; exact HPOS.out i (by have := HPL2.out; omega)
        have hp1 : decide (0 < (pl : Int)) = true := decide_eq_true (by omega)
        clear hc
        have MB := Aside0.mk (M1.out.allocAt #[.slice B6 pl d6] 32 wr.heap.size rfl)
        go_wp2_with (((with_reducible refine gate_builtin (b := .append) (xs := #[.tmp 148, .tmp 153]) rfl ?_); at_builtin; refine Mem.app kH (Rr := fun x c => x = (⟨B6, pl, d6⟩ : Hd) ∧ c = [(⟨B6, pl, d6⟩ : Hd).v]) MB.out 1 _ hsO [⟨B6, pl, d6⟩] rfl (.tmp 148) (.tmp 153) 22 32 _ _ rfl Try.underlying22 info32 rfl (by decide) (by omega) (some ⟨wr.heap.size, 0, none⟩) 1 1 rfl rfl rfl (reads_one (⟨B6, pl, d6⟩ : Hd) (MB.out.blk_at 0 rfl) rfl) (fun x c h => by obtain ⟨rfl, rfl⟩ := h; exact flatH.mk_ _ _ _ _) (by have := HSL.out; omega) ?_; intro v2 w2 hM1; have M4 := Aside0.mk hM1; clear hM1))
        go_roundg (ps.length - i)
        case measure => have := HK.out; omega
        case rel => exact ⟨i + 1, hsO ++ [(⟨B6, pl, d6⟩ : Hd)], by go_num, ⟨by omega, by omega⟩, ⟨by rw [HS.out]; exact (take_go hh6).symm⟩, ⟨Mem.sel (ps := [_, _, _]) (F := inner hs2 P ++ []) [1, 2] 3 M4.out rfl rfl⟩⟩
    · have hd1 : decide ((i : Int) < (ps.length : Int)) = false := decide_eq_false (by omega)
      have hk : i = ps.length := by have := HK.out; omega
      have hs3 := HS.out
      rw [List.take_of_length_le (by have := HHL.out; have := HPL2.out; omega)] at hs3
      have M3 := Aside0.mk M1.out
      subst hsO
      clear M1 hk HS
      go_wp2_with fail
      go_ret
      exact ⟨_, _, rfl, ⟨HHL.out, Mem.sel (ps := [_, _]) (F := inner hs2 P ++ []) [0] 2 M3.out rfl rfl⟩⟩
set_option maxRecDepth 100000 in
set_option maxHeartbeats 8000000 in
theorem D11_keep_last (A : Option Addr) (c : Nat) (ps : List (List SP)) (key : ByteArray) (w : World) (hl : Kd.C (Kd.slice 41 kP) w A ps.length ps) (hc : ps.length ≤ c) (hn : ps.length ≤ 100000) (hpp : ∀ p ∈ ps, p.length ≤ 100000) (k0 k1 k2 k3 : Nat) (gv : ByteArray) (hR : falseworkref7_Right.f k0 ps = some true) (hG : falseworkref7_Get.f k1 ps key = some (gv, true)) (n : Nat) (hnk : n < ps.length) (hO : falseworkref7_of.f k2 ps key = some (n : Int)) (p q : List SP) (hp : ps.getD n [] = p) (hW : falseworkref7_without.f k3 p key = some q) (P : List (List SP)) (hP0 : ps.set n q = P) (hq : 0 < q.length) (hpos : ∀ j, j < P.length → 0 < (P.getD j []).length) (hone : ∀ j, (P.getD j []).length ≤ 1000000) (hmode : n + 1 = ps.length ∧ 0 < n) (hsum : 4 < q.length + (P.getD (n - 1) []).length) :
    Calls Try.prog 33 #[.slice A ps.length c, .string key] w fun e w' => ∃ (v : Value) (hs : List Hd), e = .returned v ∧ PgM w w' v hs (P) [] := by
  have HQL := Aside0.mk hq
  have HPOS := Aside0.mk hpos
  have HMODE := Aside0.mk hmode
  have HONE := Aside0.mk hone
  have HSUM := Aside0.mk hsum
  clear hsum
  clear hq hpos hmode hone
  have HL := Aside0.mk hl
  have HC := Aside0.mk hc
  have HR := Aside0.mk hR
  have HG := Aside0.mk hG
  have HN := Aside0.mk hn
  have HPP := Aside0.mk hpp
  have M0 := Aside0.mk (Mem.nil w)
  have HO := Aside0.mk hO
  have HP := Aside0.mk hp
  have HW := Aside0.mk hW
  have HPP0 := Aside0.mk hP0
  have hnb : n < 1000000 := by omega
  clear hl hc hR hpp hG hO hp hW hP0 hn
  go_enter Try.func33, Try.ntmps33
  go_wp2_with fail
  refine (falseworkref7_Right.calls k0 A c ps true _ HL.out HC.out HR.out).mono ?_
  rintro e w1 ⟨rfl, hD⟩
  have M1 := Aside0.mk (M0.out.drawn hD)
  clear hD
  go_wp2_with fail
  refine (falseworkref7_Get.calls k1 A c ps key gv true _ (Kd.C_below HL.out M1.out.below) HC.out HG.out).mono ?_
  rintro e w2 ⟨rfl, hD⟩
  have M2 := Aside0.mk (M1.out.drawn hD)
  clear hD M1 M0
  go_wp2_with fail
  refine (copied11_calls A c ps _ (Kd.C_below HL.out M2.out.below) (by have := HN.out; omega) (fun q hq => by have := HPP.out q hq; omega)).mono ?_
  rintro e w3 ⟨v, hs, rfl, hM⟩
  have ME := hM.mem
  have hml := hM.len
  obtain ⟨g, d, rfl, _, hg, _⟩ := Kd.R_form (ME.hold (i := 0) rfl) (by omega : 0 < hs.length)
  rw [hml] at ME
  have HML := Aside0.mk hml
  have M3 := Aside0.mk (show Mem w w3 ([row kH 32 (.slice (some ⟨g, 0, none⟩) ps.length d) hs] ++ (inner hs ps ++ [])) from (M2.out.trans ME).reindex id id (fun j r hj => ⟨by simpa using hj, rfl⟩))
  rw [hml]
  clear hM ME M2 hml
  go_wp2_with fail
  refine (falseworkref7_of.calls k2 A c ps key n _ (Kd.C_below HL.out M3.out.below) HC.out HO.out).mono ?_
  rintro e w4 ⟨rfl, hD⟩
  have M4 := Aside0.mk (M3.out.drawn hD)
  clear hD M3
  have hi1 : ((n : Int) < (ps.length : Int)) = True := eq_true (by omega)
  obtain ⟨B, d1, hh, hx, hC, hd1⟩ := hd_read (pre := [_]) M4.out 0 rfl HML.out n hnk
  rw [HP.out] at hh hx hC hd1
  have HCP := Aside0.mk hC
  have HD1 := Aside0.mk hd1
  have hg4 := World.block_lt_of_cell? w4 _ hx
  clear hC hd1 hh hg
  go_wp2_with fail
  refine (falseworkref7_without.calls k3 B d1 p key q _ HCP.out HD1.out HW.out).mono ?_
  rintro e w5 ⟨v', rfl, hR5, hb5⟩
  have M5 := Aside0.mk (M4.out.fresh hb5 hR5)
  obtain ⟨B2, d2, rfl, _, _⟩ := M5.out.row_at 0 rfl
  clear hR5 hb5 hx hg4
  obtain ⟨k1', k2', k3', k4'⟩ := Mem.hd_cell' M5.out 1 rfl n hnk
  obtain ⟨ov, k0'⟩ := Option.isSome_iff_exists.1 k1'
  have K4 := Aside0.mk k4'
  clear k1' k4'
  go_upto_region 9 with (fail)
  have M8 := Aside0.mk (PgM.swap HML.out hnk (hd := ⟨B2, q.length, d2⟩) (Mem.sel (ps := [_, _]) (F := inner hs ps ++ []) [1, 0] 2 (K4.out ⟨B2, q.length, d2⟩) rfl rfl))
  obtain ⟨wx, hwx⟩ : ∃ wx, w5.setCell ⟨g, n, none⟩ (Hd.v ⟨B2, q.length, d2⟩) = wx := ⟨_, rfl⟩
  rw [hwx] at M8
  change w5.setCell ⟨g, n, none⟩ (.slice B2 q.length d2) = wx at hwx
  rw [hwx]
  rw [HPP0.out] at M8
  have M9 := M8
  clear M8 M5 M4 K4 k0' k2' k3' hwx
  obtain ⟨hs2, hhs2⟩ : ∃ hs2, hs.set n ⟨B2, q.length, d2⟩ = hs2 := ⟨_, rfl⟩
  rw [hhs2] at M9
  have hPl : P.length = ps.length := by rw [← HPP0.out, List.length_set]
  have hPn : P.getD n [] = q := by rw [← HPP0.out]; simp [List.getD, hnk]
  obtain ⟨B3, d3, hcn, _⟩ := PgM.cell M9.out n (by omega)
  rw [hPn] at hcn
  have HPL2 := Aside0.mk hPl
  have HPN := Aside0.mk hPn
  clear hPn hPl hhs2
  have hql : ¬ (q.length : Int) = 0 := by have := HQL.out; omega
  have hql2 : ((q.length : Int) == 0) = false := beq_eq_false_iff_ne.mpr hql
  have hf1 : decide ((n : Int) + 1 < (ps.length : Int)) = false := decide_eq_false (by have := HMODE.out; omega)
  have hf2 : decide (0 < (n : Int)) = true := decide_eq_true (by have := HMODE.out; omega)
  have hf2a : decide (0 < n) = true := decide_eq_true (by have := HMODE.out; omega)
  have hf2b : 0 < n := by have := HMODE.out; omega
  obtain ⟨f, hfn⟩ : ∃ f, n = f + 1 := ⟨n - 1, by have := HMODE.out; omega⟩
  obtain ⟨B5, d5, hc5, _⟩ := PgM.cell M9.out f (by have := HMODE.out; have := HPL2.out; omega)
  have hfl2 : ((f : Int) < (ps.length : Int)) = True := eq_true (by have := HMODE.out; omega)
  obtain ⟨pg, hpg⟩ : ∃ pg, (P.getD f []).length = pg := ⟨_, rfl⟩
  have hpgb : pg ≤ 1000000 := by rw [← hpg]; exact HONE.out _
  have hqb : q.length ≤ 1000000 := by have := HONE.out n; rw [HPN.out] at this; exact this
  rw [hpg] at hc5
  have HPG := Aside0.mk hpg
  have hn1 : (n : Int) - 1 = (f : Int) := by omega
  have hn1w : IntKind.i64.wrap ((n : Int) - 1) = (f : Int) := by rw [IntKind.wrap_i64]; omega
  have HFN := Aside0.mk hfn
  clear hpg hfn
  go_upto_region 15 with (fail)
  have hs4 : decide ((q.length : Int) + (pg : Int) ≤ 4) = false := decide_eq_false (by have h5 := HSUM.out; rw [show n - 1 = f by have := HFN.out; omega, HPG.out] at h5; omega)
  go_quiet (fail)
  have MM := Aside0.mk (Mem.row_nil M9.out.mem kH 32)
  have HHL := Aside0.mk (show hs2.length = P.length from M9.out.len)
  go_upto_region 18 with (fail)
  clear hcn hc5 hn1 hn1w
  go_wp2_with fail
  go_loopg [11, 12, 13] (ps.length + 1) (fun kq v11 v12 v13 w' => ∃ (i : Nat) (hsO : List Hd), v12 = .int .i64 i ∧ Aside0 (i ≤ ps.length ∧ kq = ps.length + 1 - i) ∧ Aside0 (hsO = hs2.take i) ∧ Aside0 (Mem w w' ([row kH 32 v11 hsO, row kH 32 (.slice (some ⟨g, 0, none⟩) ps.length d) hs2] ++ (inner hs2 P ++ []))))
  case atStart => exact ⟨0, [], rfl, ⟨by omega, by omega⟩, ⟨by simp⟩, ⟨MM.out.drewN _⟩⟩
  case round =>
    obtain ⟨i, hsO, rfl, HK, HS, M1⟩ := hrel
    clear MM M9
    by_cases hlt : i < ps.length
    · have hd1 : decide ((i : Int) < (ps.length : Int)) = true := decide_eq_true (by omega)
      have hib : i < 1000000 := by have := HN.out; omega
      obtain ⟨B6, d6, hh6, hx6, hC6, hd6⟩ := hd_read (pre := [_, _]) M1.out 1 rfl HHL.out i (by have := HPL2.out; omega)
      have hgx := World.block_lt_of_cell? wr _ hx6
      have hij : ((i : Int) < (ps.length : Int)) = True := eq_true (by omega)
      have HSL := Aside0.mk (show hsO.length ≤ 1000000 by rw [HS.out]; have : (hs2.take i).length ≤ i := List.length_take_le _ _; omega)
      obtain ⟨pl, hpl⟩ : ∃ pl, (P.getD i []).length = pl := ⟨_, rfl⟩
      rw [hpl] at hh6 hx6
      have HPLL := Aside0.mk hpl
      clear hC6 hd6 hpl
      rcases Nat.lt_trichotomy i n with hc | hc | hc
      · have hc1 : ((i : Int) == (n : Int)) = false := beq_eq_false_iff_ne.mpr (by omega)
        have hc1a : (i == n) = false := beq_eq_false_iff_ne.mpr (by omega)
        have hc1b : ¬ i = n := by omega
        have hc2 : decide ((i : Int) < (n : Int)) = true := decide_eq_true (by omega)
        have hc2a : decide (i < n) = true := decide_eq_true (by omega)
        have HNE := Aside0.mk (show ¬ i = n by omega)
        have hp0 : 0 < pl := by rw [← HPLL.out]; exact HPOS.out i (by have := HPL2.out; omega)
        have hp1 : decide (0 < (pl : Int)) = true := decide_eq_true (by omega)
        clear hc
        have MB := Aside0.mk (M1.out.allocAt #[.slice B6 pl d6] 32 wr.heap.size rfl)
        go_wp2_with (((with_reducible refine gate_builtin (b := .append) (xs := #[.tmp 148, .tmp 153]) rfl ?_); at_builtin; refine Mem.app kH (Rr := fun x c => x = (⟨B6, pl, d6⟩ : Hd) ∧ c = [(⟨B6, pl, d6⟩ : Hd).v]) MB.out 1 _ hsO [⟨B6, pl, d6⟩] rfl (.tmp 148) (.tmp 153) 22 32 _ _ rfl Try.underlying22 info32 rfl (by decide) (by omega) (some ⟨wr.heap.size, 0, none⟩) 1 1 rfl rfl rfl (reads_one (⟨B6, pl, d6⟩ : Hd) (MB.out.blk_at 0 rfl) rfl) (fun x c h => by obtain ⟨rfl, rfl⟩ := h; exact flatH.mk_ _ _ _ _) (by have := HSL.out; omega) ?_; intro v2 w2 hM1; have M4 := Aside0.mk hM1; clear hM1))
        go_roundg (ps.length - i)
        case measure => have := HK.out; omega
        case rel => exact ⟨i + 1, hsO ++ [(⟨B6, pl, d6⟩ : Hd)], by go_num, ⟨by omega, by omega⟩, ⟨by rw [HS.out]; exact (take_go hh6).symm⟩, ⟨Mem.sel (ps := [_, _, _]) (F := inner hs2 P ++ []) [1, 2] 3 M4.out rfl rfl⟩⟩
      · subst hc
        have hc1 : ((i : Int) == (i : Int)) = true := by simp
        have hc2 : decide ((i : Int) < (i : Int)) = false := decide_eq_false (by omega)
        have hp0 : 0 < pl := by rw [← HPLL.out]; exact HPOS.out i (by have := HPL2.out; omega)
        have hp1 : decide (0 < (pl : Int)) = true := decide_eq_true (by omega)
        have MB := Aside0.mk (M1.out.allocAt #[.slice B6 pl d6] 32 wr.heap.size rfl)
        go_wp2_with (((with_reducible refine gate_builtin (b := .append) (xs := #[.tmp 148, .tmp 153]) rfl ?_); at_builtin; refine Mem.app kH (Rr := fun x c => x = (⟨B6, pl, d6⟩ : Hd) ∧ c = [(⟨B6, pl, d6⟩ : Hd).v]) MB.out 1 _ hsO [⟨B6, pl, d6⟩] rfl (.tmp 148) (.tmp 153) 22 32 _ _ rfl Try.underlying22 info32 rfl (by decide) (by omega) (some ⟨wr.heap.size, 0, none⟩) 1 1 rfl rfl rfl (reads_one (⟨B6, pl, d6⟩ : Hd) (MB.out.blk_at 0 rfl) rfl) (fun x c h => by obtain ⟨rfl, rfl⟩ := h; exact flatH.mk_ _ _ _ _) (by have := HSL.out; omega) ?_; intro v2 w2 hM1; have M4 := Aside0.mk hM1; clear hM1))
        go_roundg (ps.length - i)
        case measure => have := HK.out; omega
        case rel => exact ⟨i + 1, hsO ++ [(⟨B6, pl, d6⟩ : Hd)], by go_num, ⟨by omega, by omega⟩, ⟨by rw [HS.out]; exact (take_go hh6).symm⟩, ⟨Mem.sel (ps := [_, _, _]) (F := inner hs2 P ++ []) [1, 2] 3 M4.out rfl rfl⟩⟩
      · have hc1 : ((i : Int) == (n : Int)) = false := beq_eq_false_iff_ne.mpr (by omega)
        have hc1a : (i == n) = false := beq_eq_false_iff_ne.mpr (by omega)
        have hc1b : ¬ i = n := by omega
        have hc2 : decide ((i : Int) < (n : Int)) = false := decide_eq_false (by omega)
        have hc2a : decide (i < n) = false := decide_eq_false (by omega)
        have hc3 : decide ((n : Int) < (i : Int)) = true := decide_eq_true (by omega)
        have hc3a : decide (n < i) = true := decide_eq_true (by omega)
        have HNE := Aside0.mk (show ¬ i = n by omega)
        have hp0 : 0 < pl := by rw [← HPLL.out]; exact HPOS.out i (by have := HPL2.out; omega)
        have hp1 : decide (0 < (pl : Int)) = true := decide_eq_true (by omega)
        clear hc
        have MB := Aside0.mk (M1.out.allocAt #[.slice B6 pl d6] 32 wr.heap.size rfl)
        go_wp2_with (((with_reducible refine gate_builtin (b := .append) (xs := #[.tmp 148, .tmp 153]) rfl ?_); at_builtin; refine Mem.app kH (Rr := fun x c => x = (⟨B6, pl, d6⟩ : Hd) ∧ c = [(⟨B6, pl, d6⟩ : Hd).v]) MB.out 1 _ hsO [⟨B6, pl, d6⟩] rfl (.tmp 148) (.tmp 153) 22 32 _ _ rfl Try.underlying22 info32 rfl (by decide) (by omega) (some ⟨wr.heap.size, 0, none⟩) 1 1 rfl rfl rfl (reads_one (⟨B6, pl, d6⟩ : Hd) (MB.out.blk_at 0 rfl) rfl) (fun x c h => by obtain ⟨rfl, rfl⟩ := h; exact flatH.mk_ _ _ _ _) (by have := HSL.out; omega) ?_; intro v2 w2 hM1; have M4 := Aside0.mk hM1; clear hM1))
        go_roundg (ps.length - i)
        case measure => have := HK.out; omega
        case rel => exact ⟨i + 1, hsO ++ [(⟨B6, pl, d6⟩ : Hd)], by go_num, ⟨by omega, by omega⟩, ⟨by rw [HS.out]; exact (take_go hh6).symm⟩, ⟨Mem.sel (ps := [_, _, _]) (F := inner hs2 P ++ []) [1, 2] 3 M4.out rfl rfl⟩⟩
    · have hd1 : decide ((i : Int) < (ps.length : Int)) = false := decide_eq_false (by omega)
      have hk : i = ps.length := by have := HK.out; omega
      have hs3 := HS.out
      rw [List.take_of_length_le (by have := HHL.out; have := HPL2.out; omega)] at hs3
      have M3 := Aside0.mk M1.out
      subst hsO
      clear M1 hk HS
      go_wp2_with fail
      go_ret
      exact ⟨_, _, rfl, ⟨HHL.out, Mem.sel (ps := [_, _]) (F := inner hs2 P ++ []) [0] 2 M3.out rfl rfl⟩⟩
set_option maxRecDepth 100000 in
set_option maxHeartbeats 8000000 in
theorem D11_keep_only (A : Option Addr) (c : Nat) (ps : List (List SP)) (key : ByteArray) (w : World) (hl : Kd.C (Kd.slice 41 kP) w A ps.length ps) (hc : ps.length ≤ c) (hn : ps.length ≤ 100000) (hpp : ∀ p ∈ ps, p.length ≤ 100000) (k0 k1 k2 k3 : Nat) (gv : ByteArray) (hR : falseworkref7_Right.f k0 ps = some true) (hG : falseworkref7_Get.f k1 ps key = some (gv, true)) (n : Nat) (hnk : n < ps.length) (hO : falseworkref7_of.f k2 ps key = some (n : Int)) (p q : List SP) (hp : ps.getD n [] = p) (hW : falseworkref7_without.f k3 p key = some q) (P : List (List SP)) (hP0 : ps.set n q = P) (hq : 0 < q.length) (hpos : ∀ j, j < P.length → 0 < (P.getD j []).length) (hone : ∀ j, (P.getD j []).length ≤ 1000000) (hmode : n + 1 = ps.length ∧ n = 0) :
    Calls Try.prog 33 #[.slice A ps.length c, .string key] w fun e w' => ∃ (v : Value) (hs : List Hd), e = .returned v ∧ PgM w w' v hs (P) [] := by
  have HQL := Aside0.mk hq
  have HPOS := Aside0.mk hpos
  have HMODE := Aside0.mk hmode
  have HONE := Aside0.mk hone
  clear hq hpos hmode hone
  have HL := Aside0.mk hl
  have HC := Aside0.mk hc
  have HR := Aside0.mk hR
  have HG := Aside0.mk hG
  have HN := Aside0.mk hn
  have HPP := Aside0.mk hpp
  have M0 := Aside0.mk (Mem.nil w)
  have HO := Aside0.mk hO
  have HP := Aside0.mk hp
  have HW := Aside0.mk hW
  have HPP0 := Aside0.mk hP0
  have hnb : n < 1000000 := by omega
  clear hl hc hR hpp hG hO hp hW hP0 hn
  go_enter Try.func33, Try.ntmps33
  go_wp2_with fail
  refine (falseworkref7_Right.calls k0 A c ps true _ HL.out HC.out HR.out).mono ?_
  rintro e w1 ⟨rfl, hD⟩
  have M1 := Aside0.mk (M0.out.drawn hD)
  clear hD
  go_wp2_with fail
  refine (falseworkref7_Get.calls k1 A c ps key gv true _ (Kd.C_below HL.out M1.out.below) HC.out HG.out).mono ?_
  rintro e w2 ⟨rfl, hD⟩
  have M2 := Aside0.mk (M1.out.drawn hD)
  clear hD M1 M0
  go_wp2_with fail
  refine (copied11_calls A c ps _ (Kd.C_below HL.out M2.out.below) (by have := HN.out; omega) (fun q hq => by have := HPP.out q hq; omega)).mono ?_
  rintro e w3 ⟨v, hs, rfl, hM⟩
  have ME := hM.mem
  have hml := hM.len
  obtain ⟨g, d, rfl, _, hg, _⟩ := Kd.R_form (ME.hold (i := 0) rfl) (by omega : 0 < hs.length)
  rw [hml] at ME
  have HML := Aside0.mk hml
  have M3 := Aside0.mk (show Mem w w3 ([row kH 32 (.slice (some ⟨g, 0, none⟩) ps.length d) hs] ++ (inner hs ps ++ [])) from (M2.out.trans ME).reindex id id (fun j r hj => ⟨by simpa using hj, rfl⟩))
  rw [hml]
  clear hM ME M2 hml
  go_wp2_with fail
  refine (falseworkref7_of.calls k2 A c ps key n _ (Kd.C_below HL.out M3.out.below) HC.out HO.out).mono ?_
  rintro e w4 ⟨rfl, hD⟩
  have M4 := Aside0.mk (M3.out.drawn hD)
  clear hD M3
  have hi1 : ((n : Int) < (ps.length : Int)) = True := eq_true (by omega)
  obtain ⟨B, d1, hh, hx, hC, hd1⟩ := hd_read (pre := [_]) M4.out 0 rfl HML.out n hnk
  rw [HP.out] at hh hx hC hd1
  have HCP := Aside0.mk hC
  have HD1 := Aside0.mk hd1
  have hg4 := World.block_lt_of_cell? w4 _ hx
  clear hC hd1 hh hg
  go_wp2_with fail
  refine (falseworkref7_without.calls k3 B d1 p key q _ HCP.out HD1.out HW.out).mono ?_
  rintro e w5 ⟨v', rfl, hR5, hb5⟩
  have M5 := Aside0.mk (M4.out.fresh hb5 hR5)
  obtain ⟨B2, d2, rfl, _, _⟩ := M5.out.row_at 0 rfl
  clear hR5 hb5 hx hg4
  obtain ⟨k1', k2', k3', k4'⟩ := Mem.hd_cell' M5.out 1 rfl n hnk
  obtain ⟨ov, k0'⟩ := Option.isSome_iff_exists.1 k1'
  have K4 := Aside0.mk k4'
  clear k1' k4'
  go_upto_region 9 with (fail)
  have M8 := Aside0.mk (PgM.swap HML.out hnk (hd := ⟨B2, q.length, d2⟩) (Mem.sel (ps := [_, _]) (F := inner hs ps ++ []) [1, 0] 2 (K4.out ⟨B2, q.length, d2⟩) rfl rfl))
  obtain ⟨wx, hwx⟩ : ∃ wx, w5.setCell ⟨g, n, none⟩ (Hd.v ⟨B2, q.length, d2⟩) = wx := ⟨_, rfl⟩
  rw [hwx] at M8
  change w5.setCell ⟨g, n, none⟩ (.slice B2 q.length d2) = wx at hwx
  rw [hwx]
  rw [HPP0.out] at M8
  have M9 := M8
  clear M8 M5 M4 K4 k0' k2' k3' hwx
  obtain ⟨hs2, hhs2⟩ : ∃ hs2, hs.set n ⟨B2, q.length, d2⟩ = hs2 := ⟨_, rfl⟩
  rw [hhs2] at M9
  have hPl : P.length = ps.length := by rw [← HPP0.out, List.length_set]
  have hPn : P.getD n [] = q := by rw [← HPP0.out]; simp [List.getD, hnk]
  obtain ⟨B3, d3, hcn, _⟩ := PgM.cell M9.out n (by omega)
  rw [hPn] at hcn
  have HPL2 := Aside0.mk hPl
  have HPN := Aside0.mk hPn
  clear hPn hPl hhs2
  have hql : ¬ (q.length : Int) = 0 := by have := HQL.out; omega
  have hql2 : ((q.length : Int) == 0) = false := beq_eq_false_iff_ne.mpr hql
  have hf1 : decide ((n : Int) + 1 < (ps.length : Int)) = false := decide_eq_false (by have := HMODE.out; omega)
  have hf2 : decide (0 < (n : Int)) = false := decide_eq_false (by have := HMODE.out; omega)
  have hf2a : decide (0 < n) = false := decide_eq_false (by have := HMODE.out; omega)
  have hf2b : ¬ 0 < n := by have := HMODE.out; omega
  have MM := Aside0.mk (Mem.row_nil M9.out.mem kH 32)
  have HHL := Aside0.mk (show hs2.length = P.length from M9.out.len)
  go_upto_region 18 with (fail)
  clear hcn
  go_wp2_with fail
  go_loopg [11, 12, 13] (ps.length + 1) (fun kq v11 v12 v13 w' => ∃ (i : Nat) (hsO : List Hd), v12 = .int .i64 i ∧ Aside0 (i ≤ ps.length ∧ kq = ps.length + 1 - i) ∧ Aside0 (hsO = hs2.take i) ∧ Aside0 (Mem w w' ([row kH 32 v11 hsO, row kH 32 (.slice (some ⟨g, 0, none⟩) ps.length d) hs2] ++ (inner hs2 P ++ []))))
  case atStart => exact ⟨0, [], rfl, ⟨by omega, by omega⟩, ⟨by simp⟩, MM⟩
  case round =>
    obtain ⟨i, hsO, rfl, HK, HS, M1⟩ := hrel
    clear MM M9
    by_cases hlt : i < ps.length
    · have hd1 : decide ((i : Int) < (ps.length : Int)) = true := decide_eq_true (by omega)
      have hib : i < 1000000 := by have := HN.out; omega
      obtain ⟨B6, d6, hh6, hx6, hC6, hd6⟩ := hd_read (pre := [_, _]) M1.out 1 rfl HHL.out i (by have := HPL2.out; omega)
      have hgx := World.block_lt_of_cell? wr _ hx6
      have hij : ((i : Int) < (ps.length : Int)) = True := eq_true (by omega)
      have HSL := Aside0.mk (show hsO.length ≤ 1000000 by rw [HS.out]; have : (hs2.take i).length ≤ i := List.length_take_le _ _; omega)
      obtain ⟨pl, hpl⟩ : ∃ pl, (P.getD i []).length = pl := ⟨_, rfl⟩
      rw [hpl] at hh6 hx6
      have HPLL := Aside0.mk hpl
      clear hC6 hd6 hpl
      rcases Nat.lt_trichotomy i n with hc | hc | hc
      · have hc1 : ((i : Int) == (n : Int)) = false := beq_eq_false_iff_ne.mpr (by omega)
        have hc1a : (i == n) = false := beq_eq_false_iff_ne.mpr (by omega)
        have hc1b : ¬ i = n := by omega
        have hc2 : decide ((i : Int) < (n : Int)) = true := decide_eq_true (by omega)
        have hc2a : decide (i < n) = true := decide_eq_true (by omega)
        have HNE := Aside0.mk (show ¬ i = n by omega)
        have hp0 : 0 < pl := by rw [← HPLL.out]; exact HPOS.out i (by have := HPL2.out; omega)
        have hp1 : decide (0 < (pl : Int)) = true := decide_eq_true (by omega)
        clear hc
        have MB := Aside0.mk (M1.out.allocAt #[.slice B6 pl d6] 32 wr.heap.size rfl)
        go_wp2_with (((with_reducible refine gate_builtin (b := .append) (xs := #[.tmp 148, .tmp 153]) rfl ?_); at_builtin; refine Mem.app kH (Rr := fun x c => x = (⟨B6, pl, d6⟩ : Hd) ∧ c = [(⟨B6, pl, d6⟩ : Hd).v]) MB.out 1 _ hsO [⟨B6, pl, d6⟩] rfl (.tmp 148) (.tmp 153) 22 32 _ _ rfl Try.underlying22 info32 rfl (by decide) (by omega) (some ⟨wr.heap.size, 0, none⟩) 1 1 rfl rfl rfl (reads_one (⟨B6, pl, d6⟩ : Hd) (MB.out.blk_at 0 rfl) rfl) (fun x c h => by obtain ⟨rfl, rfl⟩ := h; exact flatH.mk_ _ _ _ _) (by have := HSL.out; omega) ?_; intro v2 w2 hM1; have M4 := Aside0.mk hM1; clear hM1))
        go_roundg (ps.length - i)
        case measure => have := HK.out; omega
        case rel => exact ⟨i + 1, hsO ++ [(⟨B6, pl, d6⟩ : Hd)], by go_num, ⟨by omega, by omega⟩, ⟨by rw [HS.out]; exact (take_go hh6).symm⟩, ⟨Mem.sel (ps := [_, _, _]) (F := inner hs2 P ++ []) [1, 2] 3 M4.out rfl rfl⟩⟩
      · subst hc
        have hc1 : ((i : Int) == (i : Int)) = true := by simp
        have hc2 : decide ((i : Int) < (i : Int)) = false := decide_eq_false (by omega)
        have hp0 : 0 < pl := by rw [← HPLL.out]; exact HPOS.out i (by have := HPL2.out; omega)
        have hp1 : decide (0 < (pl : Int)) = true := decide_eq_true (by omega)
        have MB := Aside0.mk (M1.out.allocAt #[.slice B6 pl d6] 32 wr.heap.size rfl)
        go_wp2_with (((with_reducible refine gate_builtin (b := .append) (xs := #[.tmp 148, .tmp 153]) rfl ?_); at_builtin; refine Mem.app kH (Rr := fun x c => x = (⟨B6, pl, d6⟩ : Hd) ∧ c = [(⟨B6, pl, d6⟩ : Hd).v]) MB.out 1 _ hsO [⟨B6, pl, d6⟩] rfl (.tmp 148) (.tmp 153) 22 32 _ _ rfl Try.underlying22 info32 rfl (by decide) (by omega) (some ⟨wr.heap.size, 0, none⟩) 1 1 rfl rfl rfl (reads_one (⟨B6, pl, d6⟩ : Hd) (MB.out.blk_at 0 rfl) rfl) (fun x c h => by obtain ⟨rfl, rfl⟩ := h; exact flatH.mk_ _ _ _ _) (by have := HSL.out; omega) ?_; intro v2 w2 hM1; have M4 := Aside0.mk hM1; clear hM1))
        go_roundg (ps.length - i)
        case measure => have := HK.out; omega
        case rel => exact ⟨i + 1, hsO ++ [(⟨B6, pl, d6⟩ : Hd)], by go_num, ⟨by omega, by omega⟩, ⟨by rw [HS.out]; exact (take_go hh6).symm⟩, ⟨Mem.sel (ps := [_, _, _]) (F := inner hs2 P ++ []) [1, 2] 3 M4.out rfl rfl⟩⟩
      · have hc1 : ((i : Int) == (n : Int)) = false := beq_eq_false_iff_ne.mpr (by omega)
        have hc1a : (i == n) = false := beq_eq_false_iff_ne.mpr (by omega)
        have hc1b : ¬ i = n := by omega
        have hc2 : decide ((i : Int) < (n : Int)) = false := decide_eq_false (by omega)
        have hc2a : decide (i < n) = false := decide_eq_false (by omega)
        have hc3 : decide ((n : Int) < (i : Int)) = true := decide_eq_true (by omega)
        have hc3a : decide (n < i) = true := decide_eq_true (by omega)
        have HNE := Aside0.mk (show ¬ i = n by omega)
        have hp0 : 0 < pl := by rw [← HPLL.out]; exact HPOS.out i (by have := HPL2.out; omega)
        have hp1 : decide (0 < (pl : Int)) = true := decide_eq_true (by omega)
        clear hc
        have MB := Aside0.mk (M1.out.allocAt #[.slice B6 pl d6] 32 wr.heap.size rfl)
        go_wp2_with (((with_reducible refine gate_builtin (b := .append) (xs := #[.tmp 148, .tmp 153]) rfl ?_); at_builtin; refine Mem.app kH (Rr := fun x c => x = (⟨B6, pl, d6⟩ : Hd) ∧ c = [(⟨B6, pl, d6⟩ : Hd).v]) MB.out 1 _ hsO [⟨B6, pl, d6⟩] rfl (.tmp 148) (.tmp 153) 22 32 _ _ rfl Try.underlying22 info32 rfl (by decide) (by omega) (some ⟨wr.heap.size, 0, none⟩) 1 1 rfl rfl rfl (reads_one (⟨B6, pl, d6⟩ : Hd) (MB.out.blk_at 0 rfl) rfl) (fun x c h => by obtain ⟨rfl, rfl⟩ := h; exact flatH.mk_ _ _ _ _) (by have := HSL.out; omega) ?_; intro v2 w2 hM1; have M4 := Aside0.mk hM1; clear hM1))
        go_roundg (ps.length - i)
        case measure => have := HK.out; omega
        case rel => exact ⟨i + 1, hsO ++ [(⟨B6, pl, d6⟩ : Hd)], by go_num, ⟨by omega, by omega⟩, ⟨by rw [HS.out]; exact (take_go hh6).symm⟩, ⟨Mem.sel (ps := [_, _, _]) (F := inner hs2 P ++ []) [1, 2] 3 M4.out rfl rfl⟩⟩
    · have hd1 : decide ((i : Int) < (ps.length : Int)) = false := decide_eq_false (by omega)
      have hk : i = ps.length := by have := HK.out; omega
      have hs3 := HS.out
      rw [List.take_of_length_le (by have := HHL.out; have := HPL2.out; omega)] at hs3
      have M3 := Aside0.mk M1.out
      subst hsO
      clear M1 hk HS
      go_wp2_with fail
      go_ret
      exact ⟨_, _, rfl, ⟨HHL.out, Mem.sel (ps := [_, _]) (F := inner hs2 P ++ []) [0] 2 M3.out rfl rfl⟩⟩
set_option maxRecDepth 100000 in
set_option maxHeartbeats 8000000 in
theorem D11_join_mid (A : Option Addr) (c : Nat) (ps : List (List SP)) (key : ByteArray) (w : World) (hl : Kd.C (Kd.slice 41 kP) w A ps.length ps) (hc : ps.length ≤ c) (hn : ps.length ≤ 100000) (hpp : ∀ p ∈ ps, p.length ≤ 100000) (k0 k1 k2 k3 : Nat) (gv : ByteArray) (hR : falseworkref7_Right.f k0 ps = some true) (hG : falseworkref7_Get.f k1 ps key = some (gv, true)) (n : Nat) (hnk : n < ps.length) (hO : falseworkref7_of.f k2 ps key = some (n : Int)) (p q : List SP) (hp : ps.getD n [] = p) (hW : falseworkref7_without.f k3 p key = some q) (P : List (List SP)) (hP0 : ps.set n q = P) (hq : 0 < q.length) (hpos : ∀ j, j < P.length → 0 < (P.getD j []).length) (hone : ∀ j, (P.getD j []).length ≤ 1000000) (hmode : n + 1 < ps.length) (hsum : ¬ 4 < q.length + (P.getD (n + 1) []).length) (pp : List SP) (hpj : P.getD n [] ++ P.getD (n + 1) [] = pp) :
    Calls Try.prog 33 #[.slice A ps.length c, .string key] w fun e w' => ∃ (v : Value) (hs : List Hd), e = .returned v ∧ PgM w w' v hs (P.take n ++ pp :: P.drop (n + 2)) [] := by
  have HQL := Aside0.mk hq
  have HPOS := Aside0.mk hpos
  have HMODE := Aside0.mk hmode
  have HONE := Aside0.mk hone
  have HSUM := Aside0.mk hsum
  have HPPP0 := Aside0.mk hpj
  clear hsum hpj
  clear hq hpos hmode hone
  have HL := Aside0.mk hl
  have HC := Aside0.mk hc
  have HR := Aside0.mk hR
  have HG := Aside0.mk hG
  have HN := Aside0.mk hn
  have HPP := Aside0.mk hpp
  have M0 := Aside0.mk (Mem.nil w)
  have HO := Aside0.mk hO
  have HP := Aside0.mk hp
  have HW := Aside0.mk hW
  have HPP0 := Aside0.mk hP0
  have hnb : n < 1000000 := by omega
  clear hl hc hR hpp hG hO hp hW hP0 hn
  go_enter Try.func33, Try.ntmps33
  go_wp2_with fail
  refine (falseworkref7_Right.calls k0 A c ps true _ HL.out HC.out HR.out).mono ?_
  rintro e w1 ⟨rfl, hD⟩
  have M1 := Aside0.mk (M0.out.drawn hD)
  clear hD
  go_wp2_with fail
  refine (falseworkref7_Get.calls k1 A c ps key gv true _ (Kd.C_below HL.out M1.out.below) HC.out HG.out).mono ?_
  rintro e w2 ⟨rfl, hD⟩
  have M2 := Aside0.mk (M1.out.drawn hD)
  clear hD M1 M0
  go_wp2_with fail
  refine (copied11_calls A c ps _ (Kd.C_below HL.out M2.out.below) (by have := HN.out; omega) (fun q hq => by have := HPP.out q hq; omega)).mono ?_
  rintro e w3 ⟨v, hs, rfl, hM⟩
  have ME := hM.mem
  have hml := hM.len
  obtain ⟨g, d, rfl, _, hg, _⟩ := Kd.R_form (ME.hold (i := 0) rfl) (by omega : 0 < hs.length)
  rw [hml] at ME
  have HML := Aside0.mk hml
  have M3 := Aside0.mk (show Mem w w3 ([row kH 32 (.slice (some ⟨g, 0, none⟩) ps.length d) hs] ++ (inner hs ps ++ [])) from (M2.out.trans ME).reindex id id (fun j r hj => ⟨by simpa using hj, rfl⟩))
  rw [hml]
  clear hM ME M2 hml
  go_wp2_with fail
  refine (falseworkref7_of.calls k2 A c ps key n _ (Kd.C_below HL.out M3.out.below) HC.out HO.out).mono ?_
  rintro e w4 ⟨rfl, hD⟩
  have M4 := Aside0.mk (M3.out.drawn hD)
  clear hD M3
  have hi1 : ((n : Int) < (ps.length : Int)) = True := eq_true (by omega)
  obtain ⟨B, d1, hh, hx, hC, hd1⟩ := hd_read (pre := [_]) M4.out 0 rfl HML.out n hnk
  rw [HP.out] at hh hx hC hd1
  have HCP := Aside0.mk hC
  have HD1 := Aside0.mk hd1
  have hg4 := World.block_lt_of_cell? w4 _ hx
  clear hC hd1 hh hg
  go_wp2_with fail
  refine (falseworkref7_without.calls k3 B d1 p key q _ HCP.out HD1.out HW.out).mono ?_
  rintro e w5 ⟨v', rfl, hR5, hb5⟩
  have M5 := Aside0.mk (M4.out.fresh hb5 hR5)
  obtain ⟨B2, d2, rfl, _, _⟩ := M5.out.row_at 0 rfl
  clear hR5 hb5 hx hg4
  obtain ⟨k1', k2', k3', k4'⟩ := Mem.hd_cell' M5.out 1 rfl n hnk
  obtain ⟨ov, k0'⟩ := Option.isSome_iff_exists.1 k1'
  have K4 := Aside0.mk k4'
  clear k1' k4'
  go_upto_region 9 with (fail)
  have M8 := Aside0.mk (PgM.swap HML.out hnk (hd := ⟨B2, q.length, d2⟩) (Mem.sel (ps := [_, _]) (F := inner hs ps ++ []) [1, 0] 2 (K4.out ⟨B2, q.length, d2⟩) rfl rfl))
  obtain ⟨wx, hwx⟩ : ∃ wx, w5.setCell ⟨g, n, none⟩ (Hd.v ⟨B2, q.length, d2⟩) = wx := ⟨_, rfl⟩
  rw [hwx] at M8
  change w5.setCell ⟨g, n, none⟩ (.slice B2 q.length d2) = wx at hwx
  rw [hwx]
  rw [HPP0.out] at M8
  have M9 := M8
  clear M8 M5 M4 K4 k0' k2' k3' hwx
  obtain ⟨hs2, hhs2⟩ : ∃ hs2, hs.set n ⟨B2, q.length, d2⟩ = hs2 := ⟨_, rfl⟩
  rw [hhs2] at M9
  have hPl : P.length = ps.length := by rw [← HPP0.out, List.length_set]
  have hPn : P.getD n [] = q := by rw [← HPP0.out]; simp [List.getD, hnk]
  obtain ⟨B3, d3, hcn, _⟩ := PgM.cell M9.out n (by omega)
  rw [hPn] at hcn
  have HPL2 := Aside0.mk hPl
  have HPN := Aside0.mk hPn
  clear hPn hPl hhs2
  have hql : ¬ (q.length : Int) = 0 := by have := HQL.out; omega
  have hql2 : ((q.length : Int) == 0) = false := beq_eq_false_iff_ne.mpr hql
  have hf1 : decide ((n : Int) + 1 < (ps.length : Int)) = true := decide_eq_true (by have := HMODE.out; omega)
  obtain ⟨B5, d5, hc5, _⟩ := PgM.cell M9.out (n + 1) (by have := HMODE.out; have := HPL2.out; omega)
  have hfl2 : ((n : Int) + 1 < (ps.length : Int)) = True := eq_true (by have := HMODE.out; omega)
  obtain ⟨pg, hpg⟩ : ∃ pg, (P.getD (n + 1) []).length = pg := ⟨_, rfl⟩
  have hpgb : pg ≤ 1000000 := by rw [← hpg]; exact HONE.out _
  have hqb : q.length ≤ 1000000 := by have := HONE.out n; rw [HPN.out] at this; exact this
  rw [hpg] at hc5
  have HPG := Aside0.mk hpg
  clear hpg
  obtain ⟨f, hfn⟩ : ∃ f, f = n := ⟨_, rfl⟩
  have HFN := Aside0.mk hfn
  have HPPP := Aside0.mk (show P.getD f [] ++ P.getD (f + 1) [] = pp by rw [hfn]; exact HPPP0.out)
  clear hfn
  go_upto_region 12 with (fail)
  have hs4 : decide ((q.length : Int) + (pg : Int) ≤ 4) = true := decide_eq_true (by have h5 := HSUM.out; rw [HPG.out] at h5; omega)
  go_quiet (fail)
  have MM := Aside0.mk (Mem.row_nil M9.out.mem kH 32)
  have HHL := Aside0.mk (show hs2.length = P.length from M9.out.len)
  have HFL := Aside0.mk (show f + 1 < ps.length by have := HMODE.out; have := HFN.out; omega)
  have hfb : f < 1000000 := by have := HFL.out; have := HN.out; omega
  go_upto_region 17 with (fail)
  rw [show (n : Int) = (f : Int) by have := HFN.out; omega]
  clear hcn hc5
  go_upto_region 18 with (fail)
  go_wp2_with fail
  have hff1 : decide ((f : Int) < (f : Int) + 1) = true := decide_eq_true (by omega)
  have hff2 : ((f : Int) == (f : Int) + 1) = false := beq_eq_false_iff_ne.mpr (by omega)
  have hff3 : ¬ (f : Int) = (f : Int) + 1 := by omega
  go_loopg [11, 12, 13] (ps.length + 1) (fun kq v11 v12 v13 w' => ∃ (i : Nat) (hb : Hd) (hsO : List Hd) (Xr : Res), v12 = .int .i64 i ∧ Aside0 (i ≤ ps.length ∧ kq = ps.length + 1 - i) ∧ Aside0 (hsO = JO hs2 f hb i) ∧ Aside0 (Xr = JR f hb pp i) ∧ Aside0 (Mem w w' ([row kH 32 v11 hsO, row kH 32 (.slice (some ⟨g, 0, none⟩) ps.length d) hs2, Xr] ++ (inner hs2 P ++ []))))
  case atStart => exact ⟨0, hz, [], emp, rfl, ⟨by omega, by omega⟩, ⟨by unfold JO; rw [if_pos (Nat.zero_le _), List.take_zero]⟩, ⟨by unfold JR; rw [if_pos (Nat.zero_le _)]⟩, ⟨Mem.sel (ps := [_, _, _]) (F := inner hs2 P ++ []) [1, 2, 0] 3 (MM.out.drewN _).cons_emp rfl rfl⟩⟩
  case round =>
    obtain ⟨i, hb, hsO, Xr, rfl, HK, HS, HX, M1⟩ := hrel
    clear MM M9
    by_cases hlt : i < ps.length
    · have hd1 : decide ((i : Int) < (ps.length : Int)) = true := decide_eq_true (by omega)
      have hib : i < 1000000 := by have := HN.out; omega
      obtain ⟨B6, d6, hh6, hx6, hC6, hd6⟩ := hd_read (pre := [_, _, _]) M1.out 1 rfl HHL.out i (by have := HPL2.out; omega)
      have hgx := World.block_lt_of_cell? wr _ hx6
      have hij : ((i : Int) < (ps.length : Int)) = True := eq_true (by omega)
      have HSL := Aside0.mk (show hsO.length ≤ 3000000 by rw [HS.out]; have := JO_len hs2 f hb i; omega)
      rcases Nat.lt_trichotomy i f with hc | hc | hc
      · have hc1 : ((i : Int) == (f : Int)) = false := beq_eq_false_iff_ne.mpr (by omega)
        have hc1a : (i == f) = false := beq_eq_false_iff_ne.mpr (by omega)
        have hc1b : ¬ i = f := by omega
        have hc2 : decide ((i : Int) < (f : Int)) = true := decide_eq_true (by omega)
        have hc2a : decide (i < f) = true := decide_eq_true (by omega)
        have HIF := Aside0.mk hc
        obtain ⟨pl, hpl⟩ : ∃ pl, (P.getD i []).length = pl := ⟨_, rfl⟩
        rw [hpl] at hh6 hx6
        have hp0 : 0 < pl := by rw [← hpl]; exact HPOS.out i (by have := HPL2.out; omega)
        have hp1 : decide (0 < (pl : Int)) = true := decide_eq_true (by omega)
        have HH6 := Aside0.mk hh6
        clear hC6 hd6 hpl hc hh6
        have MB := Aside0.mk (M1.out.allocAt #[.slice B6 pl d6] 32 wr.heap.size rfl)
        go_wp2_with (((with_reducible refine gate_builtin (b := .append) (xs := #[.tmp 148, .tmp 153]) rfl ?_); at_builtin; refine Mem.app kH (Rr := fun x c => x = (⟨B6, pl, d6⟩ : Hd) ∧ c = [(⟨B6, pl, d6⟩ : Hd).v]) MB.out 1 _ hsO [⟨B6, pl, d6⟩] rfl (.tmp 148) (.tmp 153) 22 32 _ _ rfl Try.underlying22 info32 rfl (by decide) (by omega) (some ⟨wr.heap.size, 0, none⟩) 1 1 rfl rfl rfl (reads_one (⟨B6, pl, d6⟩ : Hd) (MB.out.blk_at 0 rfl) rfl) (fun x c h => by obtain ⟨rfl, rfl⟩ := h; exact flatH.mk_ _ _ _ _) (by have := HSL.out; omega) ?_; intro v2 w2 hM1; have M4 := Aside0.mk hM1; clear hM1))
        go_roundg (ps.length - i)
        case measure => have := HK.out; omega
        case rel => exact ⟨i + 1, hb, hsO ++ [(⟨B6, pl, d6⟩ : Hd)], Xr, by go_num, ⟨by omega, by omega⟩, ⟨by rw [HS.out]; exact (JO_lo HH6.out HIF.out).symm⟩, ⟨by rw [HX.out]; unfold JR; by_cases h : i ≤ f <;> by_cases h' : i + 1 ≤ f <;> first | (exfalso; omega) | simp [h, h']⟩, ⟨Mem.sel (ps := [_, _, _, _]) (F := inner hs2 P ++ []) [1, 2, 3] 4 M4.out rfl rfl⟩⟩
      · subst hc
        have hc1 : ((i : Int) == (i : Int)) = true := by simp
        have hX0 : Xr = emp := by rw [HX.out]; unfold JR; rw [if_pos (Nat.le_refl _)]
        obtain ⟨pf, hpf⟩ : ∃ pf, P.getD i [] = pf := ⟨_, rfl⟩
        obtain ⟨pg', hpg'⟩ : ∃ pg', P.getD (i + 1) [] = pg' := ⟨_, rfl⟩
        have HPF := Aside0.mk hpf
        have HPG' := Aside0.mk hpg'
        have HPQ := Aside0.mk (show pf ++ pg' = pp by rw [← hpf, ← hpg']; exact HPPP.out)
        have HLF := Aside0.mk (show pf.length ≤ 1000000 by rw [← hpf]; exact HONE.out _)
        have HLG := Aside0.mk (show pg'.length ≤ 1000000 by rw [← hpg']; exact HONE.out _)
        rw [hpf] at hh6 hx6 hC6 hd6
        have HC6 := Aside0.mk hC6
        have hi2 : ((i : Int) + 1 < (ps.length : Int)) = True := eq_true (by have := HFL.out; omega)
        have MA := Aside0.mk ((M1.out.alloc #[] 41).lit 0 kP [] rfl (Reps.none _ _) (by decide))
        clear hC6 hd6 hpf hpg' hh6
        go_wp2_with (first | ((with_reducible refine gate_builtin (b := .append) (xs := #[.tmp 103, .tmp 107]) rfl ?_); at_builtin; refine Mem.app kP MA.out 0 _ [] pf rfl (.tmp 103) (.tmp 107) 32 41 _ _ rfl Try.underlying32 info41 rfl (by decide) (by omega) B6 _ d6 rfl rfl rfl (Kd.C_alloc HC6.out _) (fun x cs h => by obtain rfl := flatP.rd_ h; exact flatP.mk_ _ _ _ x) (by have := HLF.out; simp; omega) ?_; intro v1 w1 hM1; rw [List.nil_append] at hM1; obtain ⟨B7, d7, e7, hc7, _⟩ := hM1.row_at 0 rfl; subst e7; have M2 := Aside0.mk hM1; clear hM1 hc7; obtain ⟨B8, d8, hh8, hx8, hC8, hd8⟩ := hd_read (pre := [_, _, _, _]) M2.out 2 rfl HHL.out (i + 1) (by have := HFL.out; have := HPL2.out; omega); rw [HPG'.out] at hh8 hx8 hC8 hd8; have HC8 := Aside0.mk hC8; clear hh8 hC8 hd8) | ((with_reducible refine gate_builtin (b := .append) (xs := #[.tmp 109, .tmp 113]) rfl ?_); at_builtin; refine Mem.app kP M2.out 0 _ pf pg' rfl (.tmp 109) (.tmp 113) 32 41 _ _ rfl Try.underlying32 info41 rfl (by decide) (by omega) B8 _ d8 rfl rfl rfl HC8.out (fun x cs h => by obtain rfl := flatP.rd_ h; exact flatP.mk_ _ _ _ x) (by have := HLF.out; have := HLG.out; omega) ?_; intro v3 w3 hM1; rw [HPQ.out] at hM1; obtain ⟨B9, d9, e9, hc9, _⟩ := hM1.row_at 0 rfl; subst e9; have M3 := Aside0.mk (hM1.allocAt #[.slice B9 pp.length d9] 32 w3.heap.size rfl); clear hM1 hc9) | ((with_reducible refine gate_builtin (b := .append) (xs := #[.tmp 115, .tmp 117]) rfl ?_); at_builtin; refine Mem.app kH (Rr := fun x c => x = (⟨B9, pp.length, d9⟩ : Hd) ∧ c = [(⟨B9, pp.length, d9⟩ : Hd).v]) M3.out 2 _ hsO [⟨B9, pp.length, d9⟩] rfl (.tmp 115) (.tmp 117) 22 32 _ _ rfl Try.underlying22 info32 rfl (by decide) (by omega) (some ⟨w3.heap.size, 0, none⟩) 1 1 rfl rfl rfl (reads_one (⟨B9, pp.length, d9⟩ : Hd) (M3.out.blk_at 0 rfl) rfl) (fun x c h => by obtain ⟨rfl, rfl⟩ := h; exact flatH.mk_ _ _ _ _) (by have := HSL.out; omega) ?_; intro v2 w2 hM1; have M4 := Aside0.mk hM1; clear hM1))
        go_roundg (ps.length - i)
        case measure => have := HK.out; omega
        case rel => exact ⟨i + 1, ⟨B9, pp.length, d9⟩, hsO ++ [(⟨B9, pp.length, d9⟩ : Hd)], row kP 41 (.slice B9 pp.length d9) pp, by go_num, ⟨by omega, by omega⟩, ⟨by rw [HS.out]; exact JO_at.symm⟩, ⟨by unfold JR; rw [if_neg (by omega)]; rfl⟩, ⟨Mem.sel (ps := [_, _, _, _, _]) (F := inner hs2 P ++ []) [2, 3, 1] 5 M4.out rfl rfl⟩⟩
      · have hc1 : ((i : Int) == (f : Int)) = false := beq_eq_false_iff_ne.mpr (by omega)
        have hc1a : (i == f) = false := beq_eq_false_iff_ne.mpr (by omega)
        have hc1b : ¬ i = f := by omega
        have hc2 : decide ((i : Int) < (f : Int)) = false := decide_eq_false (by omega)
        have hc2a : decide (i < f) = false := decide_eq_false (by omega)
        obtain ⟨pl, hpl⟩ : ∃ pl, (P.getD i []).length = pl := ⟨_, rfl⟩
        rw [hpl] at hh6 hx6
        have hp0 : 0 < pl := by rw [← hpl]; exact HPOS.out i (by have := HPL2.out; omega)
        have hp1 : decide (0 < (pl : Int)) = true := decide_eq_true (by omega)
        have HH6 := Aside0.mk hh6
        clear hC6 hd6 hpl hh6
        by_cases hq2 : i = f + 1
        · have hc3 : decide ((f : Int) + 1 < (i : Int)) = false := decide_eq_false (by omega)
          have HQ2 := Aside0.mk hq2
          clear hc hq2
          go_wp2_with fail
          go_roundg (ps.length - i)
          case measure => have := HK.out; omega
          case rel => exact ⟨i + 1, hb, hsO, Xr, by go_num, ⟨by omega, by omega⟩, ⟨by rw [HS.out, HQ2.out]; exact JO_skip.symm⟩, ⟨by rw [HX.out, HQ2.out]; unfold JR; rw [if_neg (by omega), if_neg (by omega)]⟩, M1⟩
        · have hc3 : decide ((f : Int) + 1 < (i : Int)) = true := decide_eq_true (by omega)
          have HIF := Aside0.mk (show f + 1 < i by omega)
          clear hc hq2
          have MB := Aside0.mk (M1.out.allocAt #[.slice B6 pl d6] 32 wr.heap.size rfl)
          go_wp2_with (((with_reducible refine gate_builtin (b := .append) (xs := #[.tmp 148, .tmp 153]) rfl ?_); at_builtin; refine Mem.app kH (Rr := fun x c => x = (⟨B6, pl, d6⟩ : Hd) ∧ c = [(⟨B6, pl, d6⟩ : Hd).v]) MB.out 1 _ hsO [⟨B6, pl, d6⟩] rfl (.tmp 148) (.tmp 153) 22 32 _ _ rfl Try.underlying22 info32 rfl (by decide) (by omega) (some ⟨wr.heap.size, 0, none⟩) 1 1 rfl rfl rfl (reads_one (⟨B6, pl, d6⟩ : Hd) (MB.out.blk_at 0 rfl) rfl) (fun x c h => by obtain ⟨rfl, rfl⟩ := h; exact flatH.mk_ _ _ _ _) (by have := HSL.out; omega) ?_; intro v2 w2 hM1; have M4 := Aside0.mk hM1; clear hM1))
          go_roundg (ps.length - i)
          case measure => have := HK.out; omega
          case rel => exact ⟨i + 1, hb, hsO ++ [(⟨B6, pl, d6⟩ : Hd)], Xr, by go_num, ⟨by omega, by omega⟩, ⟨by rw [HS.out]; exact (JO_hi HH6.out HIF.out).symm⟩, ⟨by rw [HX.out]; unfold JR; by_cases h : i ≤ f <;> by_cases h' : i + 1 ≤ f <;> first | (exfalso; omega) | simp [h, h']⟩, ⟨Mem.sel (ps := [_, _, _, _]) (F := inner hs2 P ++ []) [1, 2, 3] 4 M4.out rfl rfl⟩⟩
    · have hd1 : decide ((i : Int) < (ps.length : Int)) = false := decide_eq_false (by omega)
      have hk : i = ps.length := by have := HK.out; omega
      have hs3 := HS.out
      rw [JO_end (by have := HHL.out; have := HPL2.out; omega) (by have := HFL.out; omega)] at hs3
      have hX3 : Xr = row kP 41 hb.v pp := by rw [HX.out]; unfold JR; rw [if_neg (by have := HFL.out; omega)]
      have M3 := Aside0.mk M1.out
      subst hsO
      subst hX3
      clear M1 hk HS HX
      go_wp2_with fail
      go_ret
      have h9 := PgM.join (hb := hb) (pp := pp) HHL.out (by have := HFL.out; have := HPL2.out; omega) (Mem.sel (ps := [_, _, _]) (F := inner hs2 P ++ []) [0, 2] 3 M3.out rfl rfl)
      rw [HFN.out] at h9
      exact ⟨_, _, rfl, h9⟩
set_option maxRecDepth 100000 in
set_option maxHeartbeats 8000000 in
theorem D11_join_last (A : Option Addr) (c : Nat) (ps : List (List SP)) (key : ByteArray) (w : World) (hl : Kd.C (Kd.slice 41 kP) w A ps.length ps) (hc : ps.length ≤ c) (hn : ps.length ≤ 100000) (hpp : ∀ p ∈ ps, p.length ≤ 100000) (k0 k1 k2 k3 : Nat) (gv : ByteArray) (hR : falseworkref7_Right.f k0 ps = some true) (hG : falseworkref7_Get.f k1 ps key = some (gv, true)) (n : Nat) (hnk : n < ps.length) (hO : falseworkref7_of.f k2 ps key = some (n : Int)) (p q : List SP) (hp : ps.getD n [] = p) (hW : falseworkref7_without.f k3 p key = some q) (P : List (List SP)) (hP0 : ps.set n q = P) (hq : 0 < q.length) (hpos : ∀ j, j < P.length → 0 < (P.getD j []).length) (hone : ∀ j, (P.getD j []).length ≤ 1000000) (hmode : n + 1 = ps.length ∧ 0 < n) (hsum : ¬ 4 < q.length + (P.getD (n - 1) []).length) (pp : List SP) (hpj : P.getD (n - 1) [] ++ P.getD n [] = pp) :
    Calls Try.prog 33 #[.slice A ps.length c, .string key] w fun e w' => ∃ (v : Value) (hs : List Hd), e = .returned v ∧ PgM w w' v hs (P.take (n - 1) ++ pp :: P.drop ((n - 1) + 2)) [] := by
  have HQL := Aside0.mk hq
  have HPOS := Aside0.mk hpos
  have HMODE := Aside0.mk hmode
  have HONE := Aside0.mk hone
  have HSUM := Aside0.mk hsum
  have HPPP0 := Aside0.mk hpj
  clear hsum hpj
  clear hq hpos hmode hone
  have HL := Aside0.mk hl
  have HC := Aside0.mk hc
  have HR := Aside0.mk hR
  have HG := Aside0.mk hG
  have HN := Aside0.mk hn
  have HPP := Aside0.mk hpp
  have M0 := Aside0.mk (Mem.nil w)
  have HO := Aside0.mk hO
  have HP := Aside0.mk hp
  have HW := Aside0.mk hW
  have HPP0 := Aside0.mk hP0
  have hnb : n < 1000000 := by omega
  clear hl hc hR hpp hG hO hp hW hP0 hn
  go_enter Try.func33, Try.ntmps33
  go_wp2_with fail
  refine (falseworkref7_Right.calls k0 A c ps true _ HL.out HC.out HR.out).mono ?_
  rintro e w1 ⟨rfl, hD⟩
  have M1 := Aside0.mk (M0.out.drawn hD)
  clear hD
  go_wp2_with fail
  refine (falseworkref7_Get.calls k1 A c ps key gv true _ (Kd.C_below HL.out M1.out.below) HC.out HG.out).mono ?_
  rintro e w2 ⟨rfl, hD⟩
  have M2 := Aside0.mk (M1.out.drawn hD)
  clear hD M1 M0
  go_wp2_with fail
  refine (copied11_calls A c ps _ (Kd.C_below HL.out M2.out.below) (by have := HN.out; omega) (fun q hq => by have := HPP.out q hq; omega)).mono ?_
  rintro e w3 ⟨v, hs, rfl, hM⟩
  have ME := hM.mem
  have hml := hM.len
  obtain ⟨g, d, rfl, _, hg, _⟩ := Kd.R_form (ME.hold (i := 0) rfl) (by omega : 0 < hs.length)
  rw [hml] at ME
  have HML := Aside0.mk hml
  have M3 := Aside0.mk (show Mem w w3 ([row kH 32 (.slice (some ⟨g, 0, none⟩) ps.length d) hs] ++ (inner hs ps ++ [])) from (M2.out.trans ME).reindex id id (fun j r hj => ⟨by simpa using hj, rfl⟩))
  rw [hml]
  clear hM ME M2 hml
  go_wp2_with fail
  refine (falseworkref7_of.calls k2 A c ps key n _ (Kd.C_below HL.out M3.out.below) HC.out HO.out).mono ?_
  rintro e w4 ⟨rfl, hD⟩
  have M4 := Aside0.mk (M3.out.drawn hD)
  clear hD M3
  have hi1 : ((n : Int) < (ps.length : Int)) = True := eq_true (by omega)
  obtain ⟨B, d1, hh, hx, hC, hd1⟩ := hd_read (pre := [_]) M4.out 0 rfl HML.out n hnk
  rw [HP.out] at hh hx hC hd1
  have HCP := Aside0.mk hC
  have HD1 := Aside0.mk hd1
  have hg4 := World.block_lt_of_cell? w4 _ hx
  clear hC hd1 hh hg
  go_wp2_with fail
  refine (falseworkref7_without.calls k3 B d1 p key q _ HCP.out HD1.out HW.out).mono ?_
  rintro e w5 ⟨v', rfl, hR5, hb5⟩
  have M5 := Aside0.mk (M4.out.fresh hb5 hR5)
  obtain ⟨B2, d2, rfl, _, _⟩ := M5.out.row_at 0 rfl
  clear hR5 hb5 hx hg4
  obtain ⟨k1', k2', k3', k4'⟩ := Mem.hd_cell' M5.out 1 rfl n hnk
  obtain ⟨ov, k0'⟩ := Option.isSome_iff_exists.1 k1'
  have K4 := Aside0.mk k4'
  clear k1' k4'
  go_upto_region 9 with (fail)
  have M8 := Aside0.mk (PgM.swap HML.out hnk (hd := ⟨B2, q.length, d2⟩) (Mem.sel (ps := [_, _]) (F := inner hs ps ++ []) [1, 0] 2 (K4.out ⟨B2, q.length, d2⟩) rfl rfl))
  obtain ⟨wx, hwx⟩ : ∃ wx, w5.setCell ⟨g, n, none⟩ (Hd.v ⟨B2, q.length, d2⟩) = wx := ⟨_, rfl⟩
  rw [hwx] at M8
  change w5.setCell ⟨g, n, none⟩ (.slice B2 q.length d2) = wx at hwx
  rw [hwx]
  rw [HPP0.out] at M8
  have M9 := M8
  clear M8 M5 M4 K4 k0' k2' k3' hwx
  obtain ⟨hs2, hhs2⟩ : ∃ hs2, hs.set n ⟨B2, q.length, d2⟩ = hs2 := ⟨_, rfl⟩
  rw [hhs2] at M9
  have hPl : P.length = ps.length := by rw [← HPP0.out, List.length_set]
  have hPn : P.getD n [] = q := by rw [← HPP0.out]; simp [List.getD, hnk]
  obtain ⟨B3, d3, hcn, _⟩ := PgM.cell M9.out n (by omega)
  rw [hPn] at hcn
  have HPL2 := Aside0.mk hPl
  have HPN := Aside0.mk hPn
  clear hPn hPl hhs2
  have hql : ¬ (q.length : Int) = 0 := by have := HQL.out; omega
  have hql2 : ((q.length : Int) == 0) = false := beq_eq_false_iff_ne.mpr hql
  have hf1 : decide ((n : Int) + 1 < (ps.length : Int)) = false := decide_eq_false (by have := HMODE.out; omega)
  have hf2 : decide (0 < (n : Int)) = true := decide_eq_true (by have := HMODE.out; omega)
  have hf2a : decide (0 < n) = true := decide_eq_true (by have := HMODE.out; omega)
  have hf2b : 0 < n := by have := HMODE.out; omega
  obtain ⟨f, hfn⟩ : ∃ f, n = f + 1 := ⟨n - 1, by have := HMODE.out; omega⟩
  obtain ⟨B5, d5, hc5, _⟩ := PgM.cell M9.out f (by have := HMODE.out; have := HPL2.out; omega)
  have hfl2 : ((f : Int) < (ps.length : Int)) = True := eq_true (by have := HMODE.out; omega)
  obtain ⟨pg, hpg⟩ : ∃ pg, (P.getD f []).length = pg := ⟨_, rfl⟩
  have hpgb : pg ≤ 1000000 := by rw [← hpg]; exact HONE.out _
  have hqb : q.length ≤ 1000000 := by have := HONE.out n; rw [HPN.out] at this; exact this
  rw [hpg] at hc5
  have HPG := Aside0.mk hpg
  have hn1 : (n : Int) - 1 = (f : Int) := by omega
  have hn1w : IntKind.i64.wrap ((n : Int) - 1) = (f : Int) := by rw [IntKind.wrap_i64]; omega
  have HFN := Aside0.mk hfn
  clear hpg hfn
  have HPPP := Aside0.mk (show P.getD f [] ++ P.getD (f + 1) [] = pp by have h5 := HPPP0.out; rw [show n - 1 = f by have := HFN.out; omega, show n = f + 1 from HFN.out] at h5; exact h5)
  go_upto_region 15 with (fail)
  have hs4 : decide ((q.length : Int) + (pg : Int) ≤ 4) = true := decide_eq_true (by have h5 := HSUM.out; rw [show n - 1 = f by have := HFN.out; omega, HPG.out] at h5; omega)
  go_quiet (fail)
  have MM := Aside0.mk (Mem.row_nil M9.out.mem kH 32)
  have HHL := Aside0.mk (show hs2.length = P.length from M9.out.len)
  have HFL := Aside0.mk (show f + 1 < ps.length by have := HMODE.out; have := HFN.out; omega)
  have hfb : f < 1000000 := by have := HFL.out; have := HN.out; omega
  go_upto_region 17 with (fail)
  rw [show (n : Int) = (f : Int) + 1 by have := HFN.out; omega]
  clear hcn hc5 hn1 hn1w
  go_upto_region 18 with (fail)
  go_wp2_with fail
  have hff1 : decide ((f : Int) < (f : Int) + 1) = true := decide_eq_true (by omega)
  have hff2 : ((f : Int) == (f : Int) + 1) = false := beq_eq_false_iff_ne.mpr (by omega)
  have hff3 : ¬ (f : Int) = (f : Int) + 1 := by omega
  go_loopg [11, 12, 13] (ps.length + 1) (fun kq v11 v12 v13 w' => ∃ (i : Nat) (hb : Hd) (hsO : List Hd) (Xr : Res), v12 = .int .i64 i ∧ Aside0 (i ≤ ps.length ∧ kq = ps.length + 1 - i) ∧ Aside0 (hsO = JO hs2 f hb i) ∧ Aside0 (Xr = JR f hb pp i) ∧ Aside0 (Mem w w' ([row kH 32 v11 hsO, row kH 32 (.slice (some ⟨g, 0, none⟩) ps.length d) hs2, Xr] ++ (inner hs2 P ++ []))))
  case atStart => exact ⟨0, hz, [], emp, rfl, ⟨by omega, by omega⟩, ⟨by unfold JO; rw [if_pos (Nat.zero_le _), List.take_zero]⟩, ⟨by unfold JR; rw [if_pos (Nat.zero_le _)]⟩, ⟨Mem.sel (ps := [_, _, _]) (F := inner hs2 P ++ []) [1, 2, 0] 3 (MM.out.drewN _).cons_emp rfl rfl⟩⟩
  case round =>
    obtain ⟨i, hb, hsO, Xr, rfl, HK, HS, HX, M1⟩ := hrel
    clear MM M9
    by_cases hlt : i < ps.length
    · have hd1 : decide ((i : Int) < (ps.length : Int)) = true := decide_eq_true (by omega)
      have hib : i < 1000000 := by have := HN.out; omega
      obtain ⟨B6, d6, hh6, hx6, hC6, hd6⟩ := hd_read (pre := [_, _, _]) M1.out 1 rfl HHL.out i (by have := HPL2.out; omega)
      have hgx := World.block_lt_of_cell? wr _ hx6
      have hij : ((i : Int) < (ps.length : Int)) = True := eq_true (by omega)
      have HSL := Aside0.mk (show hsO.length ≤ 3000000 by rw [HS.out]; have := JO_len hs2 f hb i; omega)
      rcases Nat.lt_trichotomy i f with hc | hc | hc
      · have hc1 : ((i : Int) == (f : Int)) = false := beq_eq_false_iff_ne.mpr (by omega)
        have hc1a : (i == f) = false := beq_eq_false_iff_ne.mpr (by omega)
        have hc1b : ¬ i = f := by omega
        have hc2 : decide ((i : Int) < (f : Int)) = true := decide_eq_true (by omega)
        have hc2a : decide (i < f) = true := decide_eq_true (by omega)
        have HIF := Aside0.mk hc
        obtain ⟨pl, hpl⟩ : ∃ pl, (P.getD i []).length = pl := ⟨_, rfl⟩
        rw [hpl] at hh6 hx6
        have hp0 : 0 < pl := by rw [← hpl]; exact HPOS.out i (by have := HPL2.out; omega)
        have hp1 : decide (0 < (pl : Int)) = true := decide_eq_true (by omega)
        have HH6 := Aside0.mk hh6
        clear hC6 hd6 hpl hc hh6
        have MB := Aside0.mk (M1.out.allocAt #[.slice B6 pl d6] 32 wr.heap.size rfl)
        go_wp2_with (((with_reducible refine gate_builtin (b := .append) (xs := #[.tmp 148, .tmp 153]) rfl ?_); at_builtin; refine Mem.app kH (Rr := fun x c => x = (⟨B6, pl, d6⟩ : Hd) ∧ c = [(⟨B6, pl, d6⟩ : Hd).v]) MB.out 1 _ hsO [⟨B6, pl, d6⟩] rfl (.tmp 148) (.tmp 153) 22 32 _ _ rfl Try.underlying22 info32 rfl (by decide) (by omega) (some ⟨wr.heap.size, 0, none⟩) 1 1 rfl rfl rfl (reads_one (⟨B6, pl, d6⟩ : Hd) (MB.out.blk_at 0 rfl) rfl) (fun x c h => by obtain ⟨rfl, rfl⟩ := h; exact flatH.mk_ _ _ _ _) (by have := HSL.out; omega) ?_; intro v2 w2 hM1; have M4 := Aside0.mk hM1; clear hM1))
        go_roundg (ps.length - i)
        case measure => have := HK.out; omega
        case rel => exact ⟨i + 1, hb, hsO ++ [(⟨B6, pl, d6⟩ : Hd)], Xr, by go_num, ⟨by omega, by omega⟩, ⟨by rw [HS.out]; exact (JO_lo HH6.out HIF.out).symm⟩, ⟨by rw [HX.out]; unfold JR; by_cases h : i ≤ f <;> by_cases h' : i + 1 ≤ f <;> first | (exfalso; omega) | simp [h, h']⟩, ⟨Mem.sel (ps := [_, _, _, _]) (F := inner hs2 P ++ []) [1, 2, 3] 4 M4.out rfl rfl⟩⟩
      · subst hc
        have hc1 : ((i : Int) == (i : Int)) = true := by simp
        have hX0 : Xr = emp := by rw [HX.out]; unfold JR; rw [if_pos (Nat.le_refl _)]
        obtain ⟨pf, hpf⟩ : ∃ pf, P.getD i [] = pf := ⟨_, rfl⟩
        obtain ⟨pg', hpg'⟩ : ∃ pg', P.getD (i + 1) [] = pg' := ⟨_, rfl⟩
        have HPF := Aside0.mk hpf
        have HPG' := Aside0.mk hpg'
        have HPQ := Aside0.mk (show pf ++ pg' = pp by rw [← hpf, ← hpg']; exact HPPP.out)
        have HLF := Aside0.mk (show pf.length ≤ 1000000 by rw [← hpf]; exact HONE.out _)
        have HLG := Aside0.mk (show pg'.length ≤ 1000000 by rw [← hpg']; exact HONE.out _)
        rw [hpf] at hh6 hx6 hC6 hd6
        have HC6 := Aside0.mk hC6
        have hi2 : ((i : Int) + 1 < (ps.length : Int)) = True := eq_true (by have := HFL.out; omega)
        have MA := Aside0.mk ((M1.out.alloc #[] 41).lit 0 kP [] rfl (Reps.none _ _) (by decide))
        clear hC6 hd6 hpf hpg' hh6
        go_wp2_with (first | ((with_reducible refine gate_builtin (b := .append) (xs := #[.tmp 103, .tmp 107]) rfl ?_); at_builtin; refine Mem.app kP MA.out 0 _ [] pf rfl (.tmp 103) (.tmp 107) 32 41 _ _ rfl Try.underlying32 info41 rfl (by decide) (by omega) B6 _ d6 rfl rfl rfl (Kd.C_alloc HC6.out _) (fun x cs h => by obtain rfl := flatP.rd_ h; exact flatP.mk_ _ _ _ x) (by have := HLF.out; simp; omega) ?_; intro v1 w1 hM1; rw [List.nil_append] at hM1; obtain ⟨B7, d7, e7, hc7, _⟩ := hM1.row_at 0 rfl; subst e7; have M2 := Aside0.mk hM1; clear hM1 hc7; obtain ⟨B8, d8, hh8, hx8, hC8, hd8⟩ := hd_read (pre := [_, _, _, _]) M2.out 2 rfl HHL.out (i + 1) (by have := HFL.out; have := HPL2.out; omega); rw [HPG'.out] at hh8 hx8 hC8 hd8; have HC8 := Aside0.mk hC8; clear hh8 hC8 hd8) | ((with_reducible refine gate_builtin (b := .append) (xs := #[.tmp 109, .tmp 113]) rfl ?_); at_builtin; refine Mem.app kP M2.out 0 _ pf pg' rfl (.tmp 109) (.tmp 113) 32 41 _ _ rfl Try.underlying32 info41 rfl (by decide) (by omega) B8 _ d8 rfl rfl rfl HC8.out (fun x cs h => by obtain rfl := flatP.rd_ h; exact flatP.mk_ _ _ _ x) (by have := HLF.out; have := HLG.out; omega) ?_; intro v3 w3 hM1; rw [HPQ.out] at hM1; obtain ⟨B9, d9, e9, hc9, _⟩ := hM1.row_at 0 rfl; subst e9; have M3 := Aside0.mk (hM1.allocAt #[.slice B9 pp.length d9] 32 w3.heap.size rfl); clear hM1 hc9) | ((with_reducible refine gate_builtin (b := .append) (xs := #[.tmp 115, .tmp 117]) rfl ?_); at_builtin; refine Mem.app kH (Rr := fun x c => x = (⟨B9, pp.length, d9⟩ : Hd) ∧ c = [(⟨B9, pp.length, d9⟩ : Hd).v]) M3.out 2 _ hsO [⟨B9, pp.length, d9⟩] rfl (.tmp 115) (.tmp 117) 22 32 _ _ rfl Try.underlying22 info32 rfl (by decide) (by omega) (some ⟨w3.heap.size, 0, none⟩) 1 1 rfl rfl rfl (reads_one (⟨B9, pp.length, d9⟩ : Hd) (M3.out.blk_at 0 rfl) rfl) (fun x c h => by obtain ⟨rfl, rfl⟩ := h; exact flatH.mk_ _ _ _ _) (by have := HSL.out; omega) ?_; intro v2 w2 hM1; have M4 := Aside0.mk hM1; clear hM1))
        go_roundg (ps.length - i)
        case measure => have := HK.out; omega
        case rel => exact ⟨i + 1, ⟨B9, pp.length, d9⟩, hsO ++ [(⟨B9, pp.length, d9⟩ : Hd)], row kP 41 (.slice B9 pp.length d9) pp, by go_num, ⟨by omega, by omega⟩, ⟨by rw [HS.out]; exact JO_at.symm⟩, ⟨by unfold JR; rw [if_neg (by omega)]; rfl⟩, ⟨Mem.sel (ps := [_, _, _, _, _]) (F := inner hs2 P ++ []) [2, 3, 1] 5 M4.out rfl rfl⟩⟩
      · have hc1 : ((i : Int) == (f : Int)) = false := beq_eq_false_iff_ne.mpr (by omega)
        have hc1a : (i == f) = false := beq_eq_false_iff_ne.mpr (by omega)
        have hc1b : ¬ i = f := by omega
        have hc2 : decide ((i : Int) < (f : Int)) = false := decide_eq_false (by omega)
        have hc2a : decide (i < f) = false := decide_eq_false (by omega)
        obtain ⟨pl, hpl⟩ : ∃ pl, (P.getD i []).length = pl := ⟨_, rfl⟩
        rw [hpl] at hh6 hx6
        have hp0 : 0 < pl := by rw [← hpl]; exact HPOS.out i (by have := HPL2.out; omega)
        have hp1 : decide (0 < (pl : Int)) = true := decide_eq_true (by omega)
        have HH6 := Aside0.mk hh6
        clear hC6 hd6 hpl hh6
        by_cases hq2 : i = f + 1
        · have hc3 : decide ((f : Int) + 1 < (i : Int)) = false := decide_eq_false (by omega)
          have HQ2 := Aside0.mk hq2
          clear hc hq2
          go_wp2_with fail
          go_roundg (ps.length - i)
          case measure => have := HK.out; omega
          case rel => exact ⟨i + 1, hb, hsO, Xr, by go_num, ⟨by omega, by omega⟩, ⟨by rw [HS.out, HQ2.out]; exact JO_skip.symm⟩, ⟨by rw [HX.out, HQ2.out]; unfold JR; rw [if_neg (by omega), if_neg (by omega)]⟩, M1⟩
        · have hc3 : decide ((f : Int) + 1 < (i : Int)) = true := decide_eq_true (by omega)
          have HIF := Aside0.mk (show f + 1 < i by omega)
          clear hc hq2
          have MB := Aside0.mk (M1.out.allocAt #[.slice B6 pl d6] 32 wr.heap.size rfl)
          go_wp2_with (((with_reducible refine gate_builtin (b := .append) (xs := #[.tmp 148, .tmp 153]) rfl ?_); at_builtin; refine Mem.app kH (Rr := fun x c => x = (⟨B6, pl, d6⟩ : Hd) ∧ c = [(⟨B6, pl, d6⟩ : Hd).v]) MB.out 1 _ hsO [⟨B6, pl, d6⟩] rfl (.tmp 148) (.tmp 153) 22 32 _ _ rfl Try.underlying22 info32 rfl (by decide) (by omega) (some ⟨wr.heap.size, 0, none⟩) 1 1 rfl rfl rfl (reads_one (⟨B6, pl, d6⟩ : Hd) (MB.out.blk_at 0 rfl) rfl) (fun x c h => by obtain ⟨rfl, rfl⟩ := h; exact flatH.mk_ _ _ _ _) (by have := HSL.out; omega) ?_; intro v2 w2 hM1; have M4 := Aside0.mk hM1; clear hM1))
          go_roundg (ps.length - i)
          case measure => have := HK.out; omega
          case rel => exact ⟨i + 1, hb, hsO ++ [(⟨B6, pl, d6⟩ : Hd)], Xr, by go_num, ⟨by omega, by omega⟩, ⟨by rw [HS.out]; exact (JO_hi HH6.out HIF.out).symm⟩, ⟨by rw [HX.out]; unfold JR; by_cases h : i ≤ f <;> by_cases h' : i + 1 ≤ f <;> first | (exfalso; omega) | simp [h, h']⟩, ⟨Mem.sel (ps := [_, _, _, _]) (F := inner hs2 P ++ []) [1, 2, 3] 4 M4.out rfl rfl⟩⟩
    · have hd1 : decide ((i : Int) < (ps.length : Int)) = false := decide_eq_false (by omega)
      have hk : i = ps.length := by have := HK.out; omega
      have hs3 := HS.out
      rw [JO_end (by have := HHL.out; have := HPL2.out; omega) (by have := HFL.out; omega)] at hs3
      have hX3 : Xr = row kP 41 hb.v pp := by rw [HX.out]; unfold JR; rw [if_neg (by have := HFL.out; omega)]
      have M3 := Aside0.mk M1.out
      subst hsO
      subst hX3
      clear M1 hk HS HX
      go_wp2_with fail
      go_ret
      have h9 := PgM.join (hb := hb) (pp := pp) HHL.out (by have := HFL.out; have := HPL2.out; omega) (Mem.sel (ps := [_, _, _]) (F := inner hs2 P ++ []) [0, 2] 3 M3.out rfl rfl)
      rw [show f = n - 1 by have := HFN.out; omega] at h9
      exact ⟨_, _, rfl, h9⟩
end Go.Proofs.Ytookpmdgoednfaa.Dr
