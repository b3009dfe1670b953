/- Texts laid together: Ks, On, Sw, Po, Ps, Ge, PgC0, Gp, Gb. No condition. -/
import Derived.Test.YtookpmdgoednfaaProg
import Derived.KernelRfl
import Derived.ChangeArms
import Derived.RegionTactic
import Derived.Deep.QuietTactic
import Derived.BigQuiet
import Derived.Shelf.Abstract
import Derived.Deep.Draws
import Derived.Deep.LoopGhost
import Derived.Test.YtookpmdgoednfaaYPz6
set_option linter.unusedVariables false
set_option linter.unusedSimpArgs false
set_option maxRecDepth 100000
set_option maxHeartbeats 8000000
namespace Go.Proofs.Ytookpmdgoednfaa.Ks
open Go.RowKit YtookpmdgoednfaaW.PrintWords YtookpmdgoednfaaW.PrintLast YtookpmdgoednfaaW.PrintMore Mx St
structure V where
  f0 : Int
  f1 : ByteArray
  f2 : Bool
def zV : V := ⟨0, ⟨#[]⟩, false⟩
def kV : Kd V := Kd.iso (Kd.pair (Kd.int .i64) (Kd.pair Kd.string Kd.bool)) (fun x => (x.f0, x.f1, x.f2))
def enckV (x : V) : List Value := [.int .i64 x.f0, .string x.f1, .bool x.f2]
theorem kV_open {w : World} {x : V} {cs : List Value} (h : kV.K w x cs) : cs = [.int .i64 x.f0, .string x.f1, .bool x.f2] := by
  obtain ⟨_, _, rfl, rfl, ⟨_, _, rfl, rfl, rfl⟩⟩ := h
  exact rfl
theorem kV_openM {w : World} {base : Nat} {ok : Nat → Prop} {x : V} {cs : List Value} (h : kV.M w base ok x cs) : cs = [.int .i64 x.f0, .string x.f1, .bool x.f2] := by
  obtain ⟨_, _, rfl, rfl, ⟨_, _, rfl, rfl, rfl⟩⟩ := h
  exact rfl
theorem kV_mk (w : World) (x : V) : kV.K w x [.int .i64 x.f0, .string x.f1, .bool x.f2] := ⟨[.int .i64 x.f0], [.string x.f1, .bool x.f2], rfl, rfl, ⟨[.string x.f1], [.bool x.f2], rfl, rfl, rfl⟩⟩
theorem kV_mkM (w : World) (base : Nat) (ok : Nat → Prop) (x : V) : kV.M w base ok x [.int .i64 x.f0, .string x.f1, .bool x.f2] := ⟨[.int .i64 x.f0], [.string x.f1, .bool x.f2], rfl, rfl, ⟨[.string x.f1], [.bool x.f2], rfl, rfl, rfl⟩⟩
theorem flatkV : Flat kV enckV := ⟨fun h => kV_openM h, fun w b ok x => kV_mkM w b ok x, fun h => kV_open h⟩
def rdkV (xs : List V) (i : Int) : V := xs.getD i.toNat zV
theorem atkV {w : World} {A : Option Addr} {n : Nat} {xs : List V} (h : Kd.C kV w A n xs) (i : Int) (h0 : 0 ≤ i) (h1 : i < n) : ∃ ad, A = some ad ∧ w.cell? (ad.add (i.toNat * 3)) = some (.int .i64 (rdkV xs i).f0) ∧ w.cell? ⟨(ad.add (i.toNat * 3)).block, (ad.add (i.toNat * 3)).off + 1, none⟩ = some (.string (rdkV xs i).f1) ∧ w.cell? ⟨(ad.add (i.toNat * 3)).block, (ad.add (i.toNat * 3)).off + 2, none⟩ = some (.bool (rdkV xs i).f2) := by
  obtain ⟨ad, c, e, _, hK, hc0⟩ := Kd.C_get h zV i h0 h1
  have hc : ∀ j u, c[j]? = some u → w.cell? (ad.add (i.toNat * 3 + j)) = some u := hc0
  obtain rfl := kV_open hK
  exact ⟨ad, e, hc 0 _ rfl, by rw [← add_field _ _ 1 (by omega)]; exact hc 1 _ rfl, by rw [← add_field _ _ 2 (by omega)]; exact hc 2 _ rfl⟩
theorem infokV : (Try.prog.info? 120).map (fun i => (i.zero, i.size, i.bytes)) = some (some (.agg #[(.int .i64 0), (.string ⟨#[]⟩), (.bool false)]), 3, 32) := by kernel_rfl
structure SA8 where
  f0 : Int
  f1 : Int
  f2 : Int
  f3 : ByteArray
  f4 : ByteArray
def zA8 : SA8 := ⟨0, 0, 0, ⟨#[]⟩, ⟨#[]⟩⟩
def kA8 : Kd SA8 := Kd.iso (Kd.pair (Kd.int .i64) (Kd.pair (Kd.int .i64) (Kd.pair (Kd.int .i64) (Kd.pair Kd.string Kd.string)))) (fun x => (x.f0, x.f1, x.f2, x.f3, x.f4))
theorem kA8_open {w : World} {x : SA8} {cs : List Value} (h : kA8.K w x cs) : cs = [.int .i64 x.f0, .int .i64 x.f1, .int .i64 x.f2, .string x.f3, .string x.f4] := by
  obtain ⟨_, _, rfl, rfl, ⟨_, _, rfl, rfl, ⟨_, _, rfl, rfl, ⟨_, _, rfl, rfl, rfl⟩⟩⟩⟩ := h
  exact rfl
theorem kA8_mk (w : World) (x : SA8) : kA8.K w x [.int .i64 x.f0, .int .i64 x.f1, .int .i64 x.f2, .string x.f3, .string x.f4] := ⟨[.int .i64 x.f0], [.int .i64 x.f1, .int .i64 x.f2, .string x.f3, .string x.f4], rfl, rfl, ⟨[.int .i64 x.f1], [.int .i64 x.f2, .string x.f3, .string x.f4], rfl, rfl, ⟨[.int .i64 x.f2], [.string x.f3, .string x.f4], rfl, rfl, ⟨[.string x.f3], [.string x.f4], rfl, rfl, rfl⟩⟩⟩⟩
def rdkA8 (xs : List SA8) (i : Int) : SA8 := xs.getD i.toNat zA8
theorem atkA8 {w : World} {A : Option Addr} {n : Nat} {xs : List SA8} (h : Kd.C kA8 w A n xs) (i : Int) (h0 : 0 ≤ i) (h1 : i < n) : ∃ ad, A = some ad ∧ w.cell? (ad.add (i.toNat * 5)) = some (.int .i64 (rdkA8 xs i).f0) ∧ w.cell? ⟨(ad.add (i.toNat * 5)).block, (ad.add (i.toNat * 5)).off + 1, none⟩ = some (.int .i64 (rdkA8 xs i).f1) ∧ w.cell? ⟨(ad.add (i.toNat * 5)).block, (ad.add (i.toNat * 5)).off + 2, none⟩ = some (.int .i64 (rdkA8 xs i).f2) ∧ w.cell? ⟨(ad.add (i.toNat * 5)).block, (ad.add (i.toNat * 5)).off + 3, none⟩ = some (.string (rdkA8 xs i).f3) ∧ w.cell? ⟨(ad.add (i.toNat * 5)).block, (ad.add (i.toNat * 5)).off + 4, none⟩ = some (.string (rdkA8 xs i).f4) := by
  obtain ⟨ad, c, e, _, hK, hc0⟩ := Kd.C_get h zA8 i h0 h1
  have hc : ∀ j u, c[j]? = some u → w.cell? (ad.add (i.toNat * 5 + j)) = some u := hc0
  obtain rfl := kA8_open hK
  exact ⟨ad, e, hc 0 _ rfl, by rw [← add_field _ _ 1 (by omega)]; exact hc 1 _ rfl, by rw [← add_field _ _ 2 (by omega)]; exact hc 2 _ rfl, by rw [← add_field _ _ 3 (by omega)]; exact hc 3 _ rfl, by rw [← add_field _ _ 4 (by omega)]; exact hc 4 _ rfl⟩
def toV (x : RV) : V := ⟨x.f1, x.f2, x.f3⟩
end Go.Proofs.Ytookpmdgoednfaa.Ks
namespace Go.Proofs.Ytookpmdgoednfaa.On
open Go.ChangeShapes Go.WideShapes Go.ChangeAt Go.RowKit Go.Deep YtookpmdgoednfaaW.PrintWords PPagePuts Pa Mx Og Ks
theorem opens_act : Opens Try.prog 57 kA8 := by
  refine ⟨by kernel_rfl, fun enc w base spare held fuel cs x h => ?_⟩
  obtain ⟨ys, n, rfl, rfl, hl, hyl, hf⟩ := DataW.trod_struct Try.underlying57 h
  rw [show Try.prog.cellsOf 57 = 5 from by kernel_rfl] at hl
  match cs, hl with
  | [c0, c1, c2, c3, c4], _ =>
    have ex : ∀ i, i < 5 → ∃ y, ys[i]? = some y := fun i hi => ⟨_, List.getElem?_eq_getElem (by rw [hyl]; exact hi)⟩
    have h0 := hf 0 _ rfl
    obtain ⟨y0, e0⟩ := ex 0 (by decide)
    rw [e0] at h0
    have h1 := hf 1 _ rfl
    obtain ⟨y1, e1⟩ := ex 1 (by decide)
    rw [e1] at h1
    have h2 := hf 2 _ rfl
    obtain ⟨y2, e2⟩ := ex 2 (by decide)
    rw [e2] at h2
    have h3 := hf 3 _ rfl
    obtain ⟨y3, e3⟩ := ex 3 (by decide)
    rw [e3] at h3
    have h4 := hf 4 _ rfl
    obtain ⟨y4, e4⟩ := ex 4 (by decide)
    rw [e4] at h4
    obtain ⟨n0, g0, _⟩ := DataW.trod_int Try.underlying3 h0
    obtain ⟨n1, g1, _⟩ := DataW.trod_int Try.underlying3 h1
    obtain ⟨n2, g2, _⟩ := DataW.trod_int Try.underlying3 h2
    obtain ⟨n3, g3, _⟩ := DataW.trod_string Try.underlying9 h3
    obtain ⟨n4, g4, _⟩ := DataW.trod_string Try.underlying9 h4
    replace g0 : List.take (Try.prog.cellsOf 3) (List.drop 0 [c0, c1, c2, c3, c4]) = [.int .i64 n0] := g0
    replace g1 : List.take (Try.prog.cellsOf 3) (List.drop 1 [c0, c1, c2, c3, c4]) = [.int .i64 n1] := g1
    replace g2 : List.take (Try.prog.cellsOf 3) (List.drop 2 [c0, c1, c2, c3, c4]) = [.int .i64 n2] := g2
    replace g3 : List.take (Try.prog.cellsOf 9) (List.drop 3 [c0, c1, c2, c3, c4]) = [.string n3] := g3
    replace g4 : List.take (Try.prog.cellsOf 9) (List.drop 4 [c0, c1, c2, c3, c4]) = [.string n4] := g4
    rw [show Try.prog.cellsOf 3 = 1 from by kernel_rfl] at g0 g1 g2
    rw [show Try.prog.cellsOf 9 = 1 from by kernel_rfl] at g3 g4
    injection g0 with g0 _
    injection g1 with g1 _
    injection g2 with g2 _
    injection g3 with g3 _
    injection g4 with g4 _
    subst g0; subst g1; subst g2; subst g3; subst g4
    exact ⟨⟨n0, n1, n2, n3, n4⟩, kA8_mk w ⟨n0, n1, n2, n3, n4⟩⟩
theorem opens_acts : Opens Try.prog 54 (Kd.slice 57 kA8) := opens_slice Try.underlying54 (by kernel_rfl) opens_act
theorem open_acts {base : Nat} {H : Type} {enc : TypeId × Value → H} {W : World} {v : Value} {d : DataW H} {p : List MemPlace} (hv : Value.okWide Try.prog W .any base 54 v) (h : DataW.Trod enc Try.prog W 0 (fun _ => true) true 54 v d p) :
    ∃ A c l, v = .slice A (List.length l) c ∧ l.length ≤ c ∧ Kd.C kA8 W A l.length l := by
  obtain ⟨a, n, c, rfl⟩ := okWide_slice Try.underlying54 hv
  obtain ⟨fuel, hf⟩ := h
  obtain ⟨l, A, c', he, hl, hC⟩ := opens_acts.2 enc W 0 _ true fuel _ _ hf
  simp [Value.cells] at he
  obtain ⟨rfl, rfl, rfl⟩ := he
  exact ⟨_, _, l, rfl, hl, hC⟩
end Go.Proofs.Ytookpmdgoednfaa.On
namespace Go.Proofs.Ytookpmdgoednfaa.Sw
open Go.RowKit YtookpmdgoednfaaW.PrintWords YtookpmdgoednfaaW.PrintLast YtookpmdgoednfaaW.PrintMore Mx St Ks Pa
def sc (room n top : Int) (kv : Value) (gm : Nat) : Array Value := #[.int .i64 room, .int .i64 n, .int .i64 top, kv, .map (some gm)]
def SK (s : St) (k : ByteArray) : Prop := k ∈ allKeys s.l
def xsV (s : St) (k : ByteArray) : List V := (vers s.l k).map toV
def mapS (gm : Nat) (s : St) (hdr : ByteArray → Value) : Res := mapB Try.prog 9 gm (SK s) hdr (allKeys s.l).length
def rowsS (s : St) (hdr : ByteArray → Value) : Res := rowsK kV 120 (SK s) hdr (xsV s)
theorem zeroL (w : World) : (zeroValue 121).run Try.prog w = .ok (.slice none 0 0) w := by kernel_rfl
theorem C_nil {α : Type} (d : Kd α) (w : World) : d.C w none 0 [] := ⟨rfl, by omega, fun h => absurd h (by simp)⟩
/-- 's.all[k]' -/
theorem lookS {w0 w : World} {rs : List Res} {gm : Nat} {s : St} {hdr : ByteArray → Value} (hM : Mem w0 w rs) (i j : Nat) (hi : rs[i]? = some (mapS gm s hdr)) (hj : rs[j]? = some (rowsS s hdr)) {k : ByteArray} (hk : k.size ≤ maxLen) :
    ∃ A c, (Instr.lookup 114 (.map (some gm)) (.string k) false).run Try.prog w = .ok (.slice A (xsV s k).length c) w ∧ (xsV s k).length ≤ c ∧ kV.C w A (xsV s k).length (xsV s k) ∧ (SK s k → hdr k = .slice A (xsV s k).length c) ∧ (¬ SK s k → A = none ∧ c = 0 ∧ xsV s k = []) := by
  obtain ⟨v, hrun, h1, h2⟩ := (hM.map_at i hi).look Try.underlying9 (t := 114) Try.underlying114 (zeroL w) hk
  by_cases hs : SK s k
  · obtain ⟨A, c, e, hl, hC⟩ := hM.rows_at j hj hs
    rw [h1 hs, e] at hrun
    exact ⟨A, c, hrun, hl, hC, fun _ => e, fun h => absurd hs h⟩
  · have e : xsV s k = [] := by unfold xsV; rw [vers_nil.2 hs]; rfl
    rw [h2 hs] at hrun
    rw [e]
    exact ⟨none, 0, hrun, Nat.le_refl _, C_nil _ _, fun h => absurd h hs, fun _ => ⟨rfl, rfl, rfl⟩⟩
section
variable {w0 w : World} {F : List Res} {g gm : Nat} {s : St} {kv : Value} {hdr : ByteArray → Value}
theorem may_calls {room n top : Int} (hM : Mem w0 w (blk g 116 (sc room n top kv gm) :: F)) (t : Int) :
    Calls Try.prog 81 #[.pointer (some ⟨g, 0, none⟩), .int .i64 t] w fun e w' => e = .returned (.bool (decide (1 ≤ t) && decide (t < maxTime) && decide (top ≤ t))) ∧ w' = w := by
  have cG := blk_cell (hM.blk_at 0 rfl)
  unfold sc at cG
  clear hM
  unfold maxTime
  by_cases h1 : 1 ≤ t
  · have q1 : decide (1 ≤ t) = true := decide_eq_true h1
    by_cases h2 : t < 1099511627776
    · have q2 : decide (t < 1099511627776) = true := decide_eq_true h2
      rw [q1, q2]
      clear h1 h2
      go_enter Try.func81, Try.ntmps81
      go_wp2
      go_ret
      exact ⟨rfl, rfl⟩
    · have q2 : decide (t < 1099511627776) = false := decide_eq_false h2
      rw [q1, q2]
      clear h1 h2
      go_enter Try.func81, Try.ntmps81
      go_wp2
      go_ret
      exact ⟨rfl, rfl⟩
  · have q1 : decide (1 ≤ t) = false := decide_eq_false h1
    rw [q1]
    clear h1
    go_enter Try.func81, Try.ntmps81
    go_wp2
    go_ret
    exact ⟨rfl, rfl⟩
end
theorem rd_last {xs : List V} (h : 0 < xs.length) {ys : List V} {v : V} (e : xs = ys ++ [v]) : rdkV xs ((xs.length : Int) - 1) = v := by
  subst e
  unfold rdkV
  have : (((ys ++ [v]).length : Int) - 1).toNat = ys.length := by rw [List.length_append, List.length_singleton]; omega
  rw [this, List.getD_eq_getElem?_getD, List.getElem?_append_right (Nat.le_refl _), Nat.sub_self]
  rfl
theorem xsV_cut {s : St} {k : ByteArray} {a b : List RV} {y : RV} (h : cut (isK k) s.l = some (a, y, b)) : xsV s k = (vers a k).map toV ++ [toV y] := by
  unfold xsV
  rw [vers_cut h, List.map_append]
  rfl
theorem xsV_none {s : St} {k : ByteArray} (h : cut (isK k) s.l = none) : xsV s k = [] := by
  unfold xsV
  rw [vers_none.1 h]
  rfl
/-- The last version at a key. -/
theorem last_is (s : St) (k : ByteArray) : (xsV s k = [] ∧ stLast s k = 0 ∧ cut (isK k) s.l = none) ∨ ∃ a y b, cut (isK k) s.l = some (a, y, b) ∧ 0 < (xsV s k).length ∧ rdkV (xsV s k) (((xsV s k).length : Int) - 1) = toV y ∧ stLast s k = y.f1 := by
  cases h : cut (isK k) s.l with
  | none => exact .inl ⟨xsV_none h, by unfold stLast; rw [h], rfl⟩
  | some c =>
    obtain ⟨a, y, b⟩ := c
    have e := xsV_cut h
    have hp : 0 < (xsV s k).length := by rw [e]; simp
    exact .inr ⟨a, y, b, rfl, hp, rd_last hp e, by unfold stLast; rw [h]⟩
section
variable {w0 w : World} {F : List Res} {g gm : Nat} {s : St} {kv : Value} {hdr : ByteArray → Value}
theorem last_calls {room n top : Int} (hM : Mem w0 w (blk g 116 (sc room n top kv gm) :: mapS gm s hdr :: rowsS s hdr :: F)) {k : ByteArray} (hk : k.size ≤ maxLen) (hb : (xsV s k).length ≤ 1000000) :
    Calls Try.prog 41 #[.pointer (some ⟨g, 0, none⟩), .string k] w fun e w' => e = .returned (.int .i64 (stLast s k)) ∧ w' = w := by
  have cG := blk_cell (hM.blk_at 0 rfl)
  unfold sc at cG
  obtain ⟨A, c, hrun, hl, hC, _, _⟩ := lookS hM 1 2 rfl rfl hk
  clear hM
  rcases last_is s k with ⟨e, e0, _⟩ | ⟨a, y, b, _, hp, hr, e0⟩
  · rw [e0]
    rw [e] at hrun
    clear e e0 hC hl
    go_enter Try.func41, Try.ntmps41
    go_wp2
    go_ret
    exact ⟨rfl, rfl⟩
  · obtain ⟨ad, rfl, h0, h1, h2⟩ := atkV hC (((xsV s k).length : Int) - 1) (by omega) (by omega)
    rw [hr] at h0 h1 h2
    rw [e0]
    clear e0 hr hC
    generalize (xsV s k).length = m at *
    obtain ⟨m', rfl⟩ : ∃ m', m = m' + 1 := ⟨m - 1, by omega⟩
    have em : ((m' + 1 : Nat) : Int) - 1 = (m' : Int) := by omega
    rw [em, Int.toNat_natCast] at h0 h1 h2
    have p1 : (m' : Int) < ((m' + 1 : Nat) : Int) := by omega
    go_enter Try.func41, Try.ntmps41
    go_wp2
    go_ret
    exact ⟨rfl, rfl⟩
end
end Go.Proofs.Ytookpmdgoednfaa.Sw
namespace Go.Proofs.Ytookpmdgoednfaa.Pa
open Go.RowKit YtookpmdgoednfaaW.PrintWords YtookpmdgoednfaaW.PrintLast YtookpmdgoednfaaW.PrintMore Mx PPagePuts
def hz : Hd := ⟨none, 0, 0⟩
theorem Mem.hd_cell {w0 w : World} {rs : List Res} {e g cap : Nat} {hs : List Hd} (h : Mem w0 w rs) (i : Nat) (hi : rs[i]? = some (row kH e (.slice (some ⟨g, 0, none⟩) hs.length cap) hs)) (j : Nat) (hj : j < hs.length) : w.cell? ⟨g, j, none⟩ = some (hs.getD j hz).v ∧ w.frozen? ⟨g, j, none⟩ = false := by
  have := Kd.R_cell hz (h.hold hi) (j : Int) (by omega) (by omega)
  rw [Int.toNat_natCast] at this
  exact this
theorem Mem.hd_put {w0 w : World} {rs : List Res} {e g cap : Nat} {hs : List Hd} (h : Mem w0 w rs) (i : Nat) (hi : rs[i]? = some (row kH e (.slice (some ⟨g, 0, none⟩) hs.length cap) hs)) (j : Nat) (x : Hd) : Mem w0 (w.setCell ⟨g, j, none⟩ x.v) (rs.set i (row kH e (.slice (some ⟨g, 0, none⟩) hs.length cap) (hs.set j x))) := by
  refine h.grown1 hi (v1 := .slice (some ⟨g, 0, none⟩) hs.length cap) ?_ (fun f hf => ?_)
  · exact (Kd.R_put (h.hold hi) (j : Int) x).2
  · exact Kd.R_mono (Kd.R_put hf (j : Int) x).1 (fun _ hk => .inl hk)
theorem Mem.hd_cell' {w0 w : World} {rs : List Res} {e g n cap : Nat} {hs : List Hd} (h : Mem w0 w rs) (i : Nat) (hi : rs[i]? = some (row kH e (.slice (some ⟨g, 0, none⟩) n cap) hs)) (j : Nat) (hj : j < n) : (w.cell? ⟨g, j, none⟩).isSome = true ∧ w.frozen? ⟨g, j, none⟩ = false ∧ g < w.heap.size ∧ ∀ x : Hd, Mem w0 (w.setCell ⟨g, j, none⟩ x.v) (rs.set i (row kH e (.slice (some ⟨g, 0, none⟩) n cap) (hs.set j x))) := by
  obtain rfl : n = hs.length := (Kd.R_reads' (h.hold hi)).1
  obtain ⟨h1, h2⟩ := Mem.hd_cell h i hi j hj
  exact ⟨by rw [h1]; rfl, h2, World.block_lt_of_cell? w _ h1, fun x => Mem.hd_put h i hi j x⟩
theorem inner_app {hs1 hs2 : List Hd} {ps1 ps2 : List (List SP)} (hl : hs1.length = ps1.length) : inner (hs1 ++ hs2) (ps1 ++ ps2) = inner hs1 ps1 ++ inner hs2 ps2 := by
  unfold inner
  exact List.zipWith_append hl
theorem inner_cons (h : Hd) (hs : List Hd) (p : List SP) (ps : List (List SP)) : inner (h :: hs) (p :: ps) = row kP 41 h.v p :: inner hs ps := rfl
theorem list_split {α : Type} {l : List α} {n : Nat} {x : α} (h : l[n]? = some x) : l = l.take n ++ x :: l.drop (n + 1) := by
  obtain ⟨hn, rfl⟩ := List.getElem?_eq_some_iff.1 h
  rw [← List.drop_eq_getElem_cons hn, List.take_append_drop]
theorem list_set {α : Type} {l : List α} {n : Nat} (x : α) (h : n < l.length) : l.set n x = l.take n ++ x :: l.drop (n + 1) := List.set_eq_take_append_cons_drop.trans (if_pos h)
theorem inner_split {hs : List Hd} {ps : List (List SP)} {n : Nat} {h : Hd} {p : List SP} (hl : hs.length = ps.length) (h1 : hs[n]? = some h) (h2 : ps[n]? = some p) : inner hs ps = inner (hs.take n) (ps.take n) ++ row kP 41 h.v p :: inner (hs.drop (n + 1)) (ps.drop (n + 1)) := by
  have e : inner hs ps = inner (hs.take n ++ h :: hs.drop (n + 1)) (ps.take n ++ p :: ps.drop (n + 1)) := by rw [← list_split h1, ← list_split h2]
  rw [e, inner_app (by rw [List.length_take, List.length_take, hl]), inner_cons]
theorem PgM.open_ {w0 w : World} {v : Value} {hs : List Hd} {ps : List (List SP)} {F : List Res} (h : PgM w0 w v hs ps F) (n : Nat) (hn : n < ps.length) :
    ∃ (g cap : Nat) (hd : Hd), v = .slice (some ⟨g, 0, none⟩) ps.length cap ∧ hs[n]? = some hd ∧ w.cell? ⟨g, n, none⟩ = some hd.v ∧ w.frozen? ⟨g, n, none⟩ = false ∧ g < w.heap.size ∧
      Mem w0 w (row kH 32 v hs :: row kP 41 hd.v (ps.getD n []) :: (inner (hs.take n) (ps.take n) ++ (inner (hs.drop (n + 1)) (ps.drop (n + 1)) ++ F))) := by
  obtain ⟨g, cap, rfl, _, hg, _⟩ := Kd.R_form (h.mem.hold (i := 0) rfl) (by rw [h.len]; omega)
  have hnh : n < hs.length := by rw [h.len]; exact hn
  have h1 : hs[n]? = some hs[n] := List.getElem?_eq_getElem hnh
  have h2 : ps[n]? = some ps[n] := List.getElem?_eq_getElem hn
  have hc := Mem.hd_cell h.mem 0 rfl n hnh
  have e1 : hs.getD n hz = hs[n] := by simp [List.getD, hnh]
  have e2 : ps.getD n [] = ps[n] := by simp [List.getD, hn]
  rw [e1] at hc
  rw [e2]
  refine ⟨g, cap, hs[n], by rw [h.len], h1, hc.1, hc.2, hg, ?_⟩
  have hm := h.mem
  rw [inner_split h.len h1 h2, List.append_assoc] at hm
  exact Mem.from_mid hm
theorem PgM.shut_ {w0 w : World} {v : Value} {hs : List Hd} {ps : List (List SP)} {F : List Res} {n : Nat} (hl : hs.length = ps.length) (hn : n < ps.length) (hd : Hd) (p : List SP)
    (h : Mem w0 w (row kH 32 v (hs.set n hd) :: row kP 41 hd.v p :: (inner (hs.take n) (ps.take n) ++ (inner (hs.drop (n + 1)) (ps.drop (n + 1)) ++ F)))) : PgM w0 w v (hs.set n hd) (ps.set n p) F := by
  refine ⟨by rw [List.length_set, List.length_set, hl], ?_⟩
  have h2 := Mem.to_mid h
  rw [show inner (hs.take n) (ps.take n) ++ row kP 41 hd.v p :: (inner (hs.drop (n + 1)) (ps.drop (n + 1)) ++ F) = inner (hs.set n hd) (ps.set n p) ++ F from ?_] at h2
  · exact h2
  · rw [list_set hd (by rw [hl]; exact hn), list_set p hn, inner_app (by rw [List.length_take, List.length_take, hl]), inner_cons]
    simp
/-- A pair's value is set. -/
theorem flat_val (xs : List SP) (i : Nat) (hi : i < xs.length) (val : ByteArray) : (xs.flatMap encP).set (i * 2 + 1) (.string val) = (xs.set i ⟨(rd_T41 xs i).f0, val⟩).flatMap encP := by
  induction xs generalizing i with
  | nil => simp at hi
  | cons x xs ih =>
    cases i with
    | zero => rfl
    | succ i =>
      have h := ih i (by simpa using hi)
      have e : rd_T41 (x :: xs) ((i + 1 : Nat) : Int) = rd_T41 xs (i : Int) := by unfold rd_T41; simp
      rw [e, List.set_cons_succ, List.flatMap_cons, List.flatMap_cons, ← h]
      show ([Value.string x.f0, Value.string x.f1] ++ xs.flatMap encP).set ((i + 1) * 2 + 1) _ = [Value.string x.f0, Value.string x.f1] ++ _
      rw [show (i + 1) * 2 + 1 = (i * 2 + 1) + 1 + 1 by omega]
      rfl
theorem Mem.val_put {w0 w : World} {rs : List Res} {g n c : Nat} {xs : List SP} (h : Mem w0 w rs) (k : Nat) (hk : rs[k]? = some (row kP 41 (.slice (some ⟨g, 0, none⟩) n c) xs)) (i : Nat) (hi : i < xs.length) (val : ByteArray) :
    (w.cell? ⟨g, i * 2 + 1, none⟩).isSome = true ∧ w.frozen? ⟨g, i * 2 + 1, none⟩ = false ∧ g < w.heap.size ∧ Mem w0 (w.setCell ⟨g, i * 2 + 1, none⟩ (.string val)) (rs.set k (row kP 41 (.slice (some ⟨g, 0, none⟩) n c) (xs.set i ⟨(rd_T41 xs i).f0, val⟩))) := by
  obtain ⟨cs, hsz, htk, hnx, hnc, hcm, hB⟩ := Mem.row_blk flatP h k hk
  change cs.size = c * 2 at hsz
  change cs.toList.take (n * 2) = _ at htk
  have hkl : k < rs.length := (List.getElem?_eq_some_iff.1 hk).1
  have hB0 : (rs.set k (blk g 41 cs))[k]? = some (blk g 41 cs) := List.getElem?_set_self hkl
  have hb := hB.blk_at k hB0
  have hcell : w.cell? ⟨g, i * 2 + 1, none⟩ = cs[i * 2 + 1]? := blk_cell hb _
  refine ⟨by rw [hcell, Array.getElem?_eq_getElem (by omega)]; rfl, blk_frozen hb _, blk_lt hb, ?_⟩
  have hS := hB.set k hB0 (i * 2 + 1) (.string val)
  rw [List.set_set] at hS
  have h3 := Mem.blk_row (c := c) flatP hS k (xs.set i ⟨(rd_T41 xs i).f0, val⟩) (List.getElem?_set_self hkl) (by rw [Array.size_setIfInBounds]; exact hsz) (by
    rw [Array.toList_setIfInBounds, ← flat_val xs i hi val, ← htk, List.length_set, ← hnx]
    exact (List.take_set ..)) (by rw [List.length_set, ← hnx]; exact hnc) hcm
  rw [List.set_set, List.length_set, ← hnx] at h3
  exact h3
theorem PgM.nil (w : World) : PgM w w (.slice none 0 0) [] [] [] := ⟨rfl, Mem.row_nil (Mem.nil w) kH 32⟩
theorem PgM.grow {w0 w w1 : World} {v : Value} {hs : List Hd} {ps : List (List SP)} {F : List Res} (h : PgM w0 w v hs ps F) (hb : Below w.heap.size w w1) : PgM w0 w1 v hs ps F := ⟨h.len, h.mem.grow hb⟩
end Go.Proofs.Ytookpmdgoednfaa.Pa
namespace Go.Proofs.Ytookpmdgoednfaa.Ps
open Go.RowKit YtookpmdgoednfaaW.PrintWords YtookpmdgoednfaaW.PrintLast YtookpmdgoednfaaW.PrintMore Mx PPagePuts Pa
attribute [local go_sem high] Go.Proofs.Ytookpmdgoednfaa.Le.str_leq Go.Proofs.Ytookpmdgoednfaa.Le.str_gtr Go.Proofs.Ytookpmdgoednfaa.Le.str_geq
theorem search_calls (g : Nat) (cb : Array Value) (n : Nat) (p : Nat → Bool) (w : World) (eg : ∀ args w, (callFunc g args).run Try.prog w = .ok (.enter g args) w) (hsz : n < 1000000000)
    (hf : ∀ (m i : Nat), i < n → Calls Try.prog g (#[.int .i64 i] ++ cb) (w.drewN m) fun e w' => e = .returned (.bool (p i)) ∧ ∃ q, w' = (w.drewN m).drewN q)
    (k : Nat) (hk : k ≤ n) (h1 : ∀ t, t < k → p t = false) (h2 : ∀ t, k ≤ t → t < n → p t = true) :
    Calls Try.prog 106 #[.int .i64 n, .func (.func g) #[] cb] w fun e w' => e = .returned (.int .i64 k) ∧ ∃ q, w' = w.drewN q := by
  have HF := Aside0.mk hf
  have H1 := Aside0.mk h1
  have H2 := Aside0.mk h2
  clear hf h1 h2
  go_enter Try.func106, Try.ntmps106
  go_wp2
  go_loopg [5, 6] n (fun kx s5 s6 wr => ∃ (lo hi q : Nat), s5 = .int .i64 lo ∧ s6 = .int .i64 hi ∧ lo ≤ k ∧ k ≤ hi ∧ hi ≤ n ∧ hi - lo ≤ kx ∧ wr = w.drewN q)
  case atStart => exact ⟨0, n, 0, rfl, rfl, Nat.zero_le _, hk, Nat.le_refl _, by omega, rfl⟩
  case round =>
    obtain ⟨lo, hi, q, rfl, rfl, hlk, hkh, hin, hg, rfl⟩ := hrel
    by_cases hlt : lo < hi
    · have hc := HF.out q ((lo + hi) / 2) (by omega)
      rw [show (((lo + hi) / 2 : Nat) : Int) = ((lo : Int) + (hi : Int)) / 2 by omega] at hc
      have HM := Aside0.mk (show p ((lo + hi) / 2) = false → (lo + hi) / 2 < k from fun h => Nat.lt_of_not_le (fun g => by rw [H2.out _ g (by omega)] at h; cases h))
      have HM2 := Aside0.mk (show p ((lo + hi) / 2) = true → k ≤ (lo + hi) / 2 from fun h => Nat.le_of_not_lt (fun g => by rw [H1.out _ g] at h; cases h))
      cases hp : p ((lo + hi) / 2) <;> rw [hp] at hc
      · have h3 := HM.out hp
        clear hp
        go_wp2_with (go_at_fn g; refine hc.mono ?_; rintro e w' ⟨rfl, nq, rfl⟩)
        go_roundg (hi - ((lo + hi) / 2 + 1))
        case measure => omega
        case rel => exact ⟨(lo + hi) / 2 + 1, hi, q + nq, by rw [show ((lo : Int) + (hi : Int)) / 2 + 1 = (((lo + hi) / 2 + 1 : Nat) : Int) by omega], rfl, by omega, hkh, hin, Nat.le_refl _, rfl⟩
      · have h3 := HM2.out hp
        clear hp
        go_wp2_with (go_at_fn g; refine hc.mono ?_; rintro e w' ⟨rfl, nq, rfl⟩)
        go_roundg ((lo + hi) / 2 - lo)
        case measure => omega
        case rel => exact ⟨lo, (lo + hi) / 2, q + nq, rfl, by rw [show ((lo : Int) + (hi : Int)) / 2 = (((lo + hi) / 2 : Nat) : Int) by omega], hlk, h3, by omega, Nat.le_refl _, rfl⟩
    · obtain rfl : hi = lo := by omega
      obtain rfl : k = hi := by omega
      go_wp2
      go_ret
      exact ⟨rfl, q, rfl⟩
/-- The first key of a page. -/
def fk (p : List SP) : List UInt8 := (rd_T41 p 0).f0.toList
theorem of1_calls (b1 b2 : Nat) (A : Option Addr) (c : Nat) (ps : List (List SP)) (key : ByteArray) (i : Nat) (W : World) (hi : i < ps.length) (ha : W.cell? ⟨b1, 0, none⟩ = some (.slice A ps.length c)) (hx : W.cell? ⟨b2, 0, none⟩ = some (.string key)) (hC : Kd.C (Kd.slice 41 kP) W A ps.length ps) (hne : 0 < (rd_L2 ps i).length) :
    Calls Try.prog 107 (#[.int .i64 i] ++ #[.pointer (some ⟨b1, 0, none⟩), .pointer (some ⟨b2, 0, none⟩)]) W fun e w' => e = .returned (.bool (Op.bytesLess key.toList (fk (rd_L2 ps i)))) ∧ ∃ q, w' = W.drewN q := by
  obtain ⟨ad, A0, c0, e, hy, hc0, hC0⟩ := at_L2 hC (i : Int) (by omega) (by omega)
  cases e
  obtain ⟨ad0, e, hz, _⟩ := at_T41 hC0 0 (by omega) (by omega)
  cases e
  rw [Int.toNat_natCast] at hy
  have hi1 : ((i : Int) < (ps.length : Int)) = True := eq_true (by omega)
  have hi2 : ((0 : Int) < ((rd_L2 ps i).length : Int)) = True := eq_true (by omega)
  unfold fk
  generalize (rd_T41 (rd_L2 ps ↑i) 0).f0 = kk at *
  clear hC hC0 hc0
  have hz0 : W.cell? ad0 = some (.string kk) := by simpa [Addr.add] using hz
  go_enter Try.func107, Try.ntmps107
  go_wp2
  go_region
  all_goals go_wp2
  all_goals go_ret
  all_goals exact ⟨by first | rfl | simp, 1, rfl⟩
theorem at1_calls (b1 b2 : Nat) (A : Option Addr) (c : Nat) (p : List SP) (key : ByteArray) (i : Nat) (W : World) (hi : i < p.length) (ha : W.cell? ⟨b1, 0, none⟩ = some (.slice A p.length c)) (hx : W.cell? ⟨b2, 0, none⟩ = some (.string key)) (hC : Kd.C kP W A p.length p) :
    Calls Try.prog 108 (#[.int .i64 i] ++ #[.pointer (some ⟨b1, 0, none⟩), .pointer (some ⟨b2, 0, none⟩)]) W fun e w' => e = .returned (.bool (!Op.bytesLess (rd_T41 p i).f0.toList key.toList)) ∧ ∃ q, w' = W.drewN q := by
  obtain ⟨ad, e, hz, _⟩ := at_T41 hC (i : Int) (by omega) (by omega)
  cases e
  rw [Int.toNat_natCast] at hz
  have hi1 : ((i : Int) < (p.length : Int)) = True := eq_true (by omega)
  generalize (rd_T41 p ↑i).f0 = kk at *
  clear hC
  go_enter Try.func108, Try.ntmps108
  go_wp2
  go_region
  all_goals go_wp2
  all_goals go_ret
  all_goals exact ⟨by first | rfl | simp, 1, rfl⟩
theorem enters_of1 : ∀ args w, (callFunc 107 args).run Try.prog w = .ok (.enter 107 args) w := enters_of Try.func107 (by kernel_rfl) rfl
theorem enters_at1 : ∀ args w, (callFunc 108 args).run Try.prog w = .ok (.enter 108 args) w := enters_of Try.func108 (by kernel_rfl) rfl
theorem of_calls (A : Option Addr) (c : Nat) (ps : List (List SP)) (key : ByteArray) (w : World) (hC : Kd.C (Kd.slice 41 kP) w A ps.length ps) (hn : ps.length ≤ 1000000) (hne : ∀ i : Nat, i < ps.length → 0 < (rd_L2 ps i).length)
    (k : Nat) (hk : k ≤ ps.length) (h1 : ∀ t : Nat, t < k → Op.bytesLess key.toList (fk (rd_L2 ps t)) = false) (h2 : ∀ t : Nat, k ≤ t → t < ps.length → Op.bytesLess key.toList (fk (rd_L2 ps t)) = true) :
    Calls Try.prog 70 #[.slice A ps.length c, .string key] w fun e w' => e = .returned (.int .i64 ((k - 1 : Nat) : Int)) ∧ Mem w w' [] := by
  have M0 := Aside0.mk (((Mem.nil w).alloc #[.slice A ps.length c] 22).allocAt #[.string key] 9 (w.heap.size + 1) (by simp))
  have HS := Aside0.mk (search_calls 107 #[.pointer (some ⟨w.heap.size, 0, none⟩), .pointer (some ⟨w.heap.size + 1, 0, none⟩)] ps.length (fun i => Op.bytesLess key.toList (fk (rd_L2 ps i))) _ enters_of1 (by omega)
    (fun m i hi => of1_calls w.heap.size (w.heap.size + 1) A c ps key i _ hi (blk_cell ((M0.out.drewN m).blk_at 1 rfl) 0) (blk_cell ((M0.out.drewN m).blk_at 0 rfl) 0) (Kd.C_below hC (M0.out.drewN m).below) (hne i hi)) k hk h1 h2)
  clear hC hne h1 h2
  rcases k with _ | k
  all_goals
    go_enter Try.func70, Try.ntmps70
    go_wp2_with (go_at_call 106; refine HS.out.mono ?_; rintro e w' ⟨rfl, q, rfl⟩)
    go_ret
    exact ⟨by first | rfl | (congr 2; simp; omega), Mem.sel (ps := [_, _]) (F := []) [] 2 (M0.out.drewN q) rfl rfl⟩
theorem at_calls (A : Option Addr) (c : Nat) (p : List SP) (key : ByteArray) (w : World) (hC : Kd.C kP w A p.length p) (hn : p.length ≤ 1000000)
    (k : Nat) (hk : k ≤ p.length) (h1 : ∀ t : Nat, t < k → Op.bytesLess (rd_T41 p t).f0.toList key.toList = true) (h2 : ∀ t : Nat, k ≤ t → t < p.length → Op.bytesLess (rd_T41 p t).f0.toList key.toList = false)
    (b : Bool) (hb : b = (decide (k < p.length) && ((rd_T41 p k).f0.toList == key.toList))) :
    Calls Try.prog 71 #[.slice A p.length c, .string key] w fun e w' => e = .returned (.tuple #[.int .i64 k, .bool b]) ∧ Mem w w' [] := by
  have M0 := Aside0.mk (((Mem.nil w).alloc #[.slice A p.length c] 32).allocAt #[.string key] 9 (w.heap.size + 1) (by simp))
  have HS := Aside0.mk (search_calls 108 #[.pointer (some ⟨w.heap.size, 0, none⟩), .pointer (some ⟨w.heap.size + 1, 0, none⟩)] p.length (fun i => !Op.bytesLess (rd_T41 p i).f0.toList key.toList) _ enters_at1 (by omega)
    (fun m i hi => at1_calls w.heap.size (w.heap.size + 1) A c p key i _ hi (blk_cell ((M0.out.drewN m).blk_at 1 rfl) 0) (blk_cell ((M0.out.drewN m).blk_at 0 rfl) 0) (Kd.C_below hC (M0.out.drewN m).below)) k hk (fun t ht => by rw [h1 t ht]; rfl) (fun t h3 h4 => by rw [h2 t h3 h4]; rfl))
  have HC := Aside0.mk hC
  clear hC h1 h2
  by_cases hlt : k < p.length
  · have hd1 : decide ((k : Int) < (p.length : Int)) = true := decide_eq_true (by omega)
    rw [decide_eq_true hlt, Bool.true_and] at hb
    obtain ⟨ad, e, hz, _⟩ := at_T41 HC.out (k : Int) (by omega) (by omega)
    cases e
    rw [Int.toNat_natCast] at hz
    have hzl := World.block_lt_of_cell? w _ hz
    have hi1 : ((k : Int) < (p.length : Int)) = True := eq_true (by omega)
    have hkb : k < 1000000 := by omega
    clear hk hlt
    subst hb
    go_enter Try.func71, Try.ntmps71
    go_wp2_with (go_at_call 106; refine HS.out.mono ?_; rintro e w' ⟨rfl, q, rfl⟩; have M1 := Aside0.mk (M0.out.drewN q); have hz3 := (M0.out.below.cell hzl).trans hz; have c1 := blk_cell (M0.out.blk_at 1 rfl); have c0 := blk_cell (M0.out.blk_at 0 rfl))
    go_quiet (fail)
    go_wp2
    go_ret2
    exact ⟨rfl, Mem.sel (ps := [_, _]) (F := []) [] 2 (M1.out.drewN _) rfl rfl⟩
  · have hd1 : decide ((k : Int) < (p.length : Int)) = false := decide_eq_false (by omega)
    have hd2 : decide (k < p.length) = false := decide_eq_false hlt
    rw [decide_eq_false hlt, Bool.false_and] at hb
    have hkb : k ≤ 1000000 := by omega
    clear hk hlt
    subst hb
    go_enter Try.func71, Try.ntmps71
    go_wp2_with (go_at_call 106; refine HS.out.mono ?_; rintro e w' ⟨rfl, q, rfl⟩; have M1 := Aside0.mk (M0.out.drewN q); have c1 := blk_cell (M0.out.blk_at 1 rfl); have c0 := blk_cell (M0.out.blk_at 0 rfl))
    go_quiet (fail)
    go_wp2
    go_ret2
    exact ⟨rfl, Mem.sel (ps := [_, _]) (F := []) [] 2 (M1.out.drewN _) rfl rfl⟩
end Go.Proofs.Ytookpmdgoednfaa.Ps
namespace Go.Proofs.Ytookpmdgoednfaa.Ge
end Go.Proofs.Ytookpmdgoednfaa.Ge
namespace Go.Proofs.Ytookpmdgoednfaa.PPagePuts
end Go.Proofs.Ytookpmdgoednfaa.PPagePuts
namespace Go.Proofs.Ytookpmdgoednfaa.Gp
open Go.RowKit YtookpmdgoednfaaW.PrintWords YtookpmdgoednfaaW.PrintLast YtookpmdgoednfaaW.PrintMore PPagePuts Py
def look (key : ByteArray) : List SP → ByteArray × Bool
  | [] => (⟨#[]⟩, false)
  | x :: l => if x.f0.toList = key.toList then (x.f1, true) else look key l
end Go.Proofs.Ytookpmdgoednfaa.Gp
namespace Go.Proofs.Ytookpmdgoednfaa.Gb
open Go.RowKit YtookpmdgoednfaaW.PrintWords YtookpmdgoednfaaW.PrintLast YtookpmdgoednfaaW.PrintMore Mx PPagePuts Pa Gp Gq
open Px (lt Bef Rt)
abbrev kof := Py.kof
theorem ne_of_gt {a b : List UInt8} (h : lt b a = true) : ¬ a = b := fun e => by rw [e, Px.lt_irrefl] at h; cases h
section
variable {ps : List (List Py.SP)} {key : List UInt8} {k : Nat}
theorem fk_le {p : List Py.SP} (hp : p.Pairwise Bef) {y : Py.SP} (hy : y ∈ p) (h : lt key (Px.fk p) = true) : lt key (kof y) = true := by
  obtain ⟨t, ht, rfl⟩ := List.mem_iff_getElem.1 hy
  have e : Px.fk p = kof (p[0]'(by omega)) := by
    unfold Px.fk
    rw [show (0 : Int) = ((0 : Nat) : Int) from rfl, Py.rdT (by omega)]
    rfl
  rw [e] at h
  rcases Nat.eq_zero_or_pos t with rfl | h0
  · exact h
  · exact Px.lt_trans h (List.pairwise_iff_getElem.1 hp 0 t (by omega) ht h0)
theorem early (rt : Rt ps) (hk : k ≤ ps.length) (h1 : ∀ t : Nat, t < k → lt key (Px.fk (rd_L2 ps t)) = false) {y : Py.SP} (hy : y ∈ (ps.take (k - 1)).flatten) : lt (kof y) key = true := by
  obtain ⟨p, hp, hyp⟩ := List.mem_flatten.1 hy
  obtain ⟨t, ht, hpt⟩ := List.mem_iff_getElem.1 hp
  rw [List.length_take] at ht
  rw [List.getElem_take] at hpt
  have hkl : k - 1 < ps.length := by omega
  obtain ⟨z, hz, ez⟩ := Px.fk_mem (rt.len _ (List.getElem_mem hkl)).1
  have hb := (List.pairwise_iff_getElem.1 rt.pages) t (k - 1) (by omega) hkl (by omega) y (by rw [hpt]; exact hyp) z hz
  have h2 := h1 (k - 1) (by omega)
  rw [Py.rdL hkl, ez] at h2
  exact not_below hb h2
theorem late (rt : Rt ps) (h2 : ∀ t : Nat, k ≤ t → t < ps.length → lt key (Px.fk (rd_L2 ps t)) = true) {y : Py.SP} (hy : y ∈ (ps.drop (k - 1 + 1)).flatten) : lt key (kof y) = true := by
  obtain ⟨p, hp, hyp⟩ := List.mem_flatten.1 hy
  obtain ⟨t, ht, hpt⟩ := List.mem_iff_getElem.1 hp
  rw [List.length_drop] at ht
  rw [List.getElem_drop] at hpt
  have h3 := h2 (k - 1 + 1 + t) (by omega) (by omega)
  rw [Py.rdL (by omega), hpt] at h3
  exact fk_le (rt.page p (by rw [← hpt]; exact List.getElem_mem _)) hyp h3
end
theorem flat_split {ps : List (List Py.SP)} {n : Nat} {p : List Py.SP} (h : ps[n]? = some p) : ps.flatten = (ps.take n).flatten ++ (p ++ (ps.drop (n + 1)).flatten) := by
  obtain ⟨hn, rfl⟩ := List.getElem?_eq_some_iff.1 h
  rw [← List.flatten_cons, ← List.drop_eq_getElem_cons hn, ← List.flatten_append, List.take_append_drop]
end Go.Proofs.Ytookpmdgoednfaa.Gb
