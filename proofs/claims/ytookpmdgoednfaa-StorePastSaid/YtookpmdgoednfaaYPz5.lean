/- Texts laid together: Pa, Og, Mb, Py, PgB0, Px, Pz. No condition. -/
import Derived.Deep.RegionLaw
import Derived.WalkKit
import Derived.ProofKit
import Derived.OpenShut
import Derived.ChangeOld
import Derived.Below
import Derived.Deep.Slices
import Derived.Maps.RangeWalk
import Derived.Test.YtookpmdgoednfaaYPz4
set_option linter.unusedVariables false
set_option linter.unusedSimpArgs false
set_option maxRecDepth 100000
set_option maxHeartbeats 8000000
namespace Go.Proofs.Ytookpmdgoednfaa.Pa
open Go.RowKit YtookpmdgoednfaaW.PrintWords YtookpmdgoednfaaW.PrintLast YtookpmdgoednfaaW.PrintMore Mx PPagePuts
abbrev SP := S41
abbrev kP := k41
/-- A slice's header. -/
structure Hd where
  A : Option Addr
  n : Nat
  c : Nat
def Hd.v (h : Hd) : Value := .slice h.A h.n h.c
def kH : Kd Hd := Kd.scalar Hd.v (fun _ => rfl)
def encP (x : SP) : List Value := [.string x.f0, .string x.f1]
theorem flatP : Flat kP encP := ⟨fun h => k41_openM h, fun w b ok x => k41_mkM w b ok x, fun h => k41_open h⟩
theorem flatH : Flat kH (fun h => [h.v]) := ⟨fun h => h, fun _ _ _ _ => rfl, fun h => h⟩
/-- The pages' own rows. -/
def inner (hs : List Hd) (ps : List (List SP)) : List Res := List.zipWith (fun h p => row kP 41 h.v p) hs ps
theorem inner_len {hs : List Hd} {ps : List (List SP)} (h : hs.length = ps.length) : (inner hs ps).length = ps.length := by unfold inner; rw [List.length_zipWith]; omega
theorem inner_get {hs : List Hd} {ps : List (List SP)} {j : Nat} {h : Hd} {p : List SP} (h1 : hs[j]? = some h) (h2 : ps[j]? = some p) : (inner hs ps)[j]? = some (row kP 41 h.v p) := by
  unfold inner
  rw [List.getElem?_zipWith, h1, h2]
theorem inner_snoc {hs : List Hd} {ps : List (List SP)} (hl : hs.length = ps.length) (h : Hd) (p : List SP) : inner (hs ++ [h]) (ps ++ [p]) = inner hs ps ++ [row kP 41 h.v p] := by
  unfold inner
  rw [List.zipWith_append hl]
  rfl
/-- Pages of the call's own. -/
structure PgM (w0 w : World) (v : Value) (hs : List Hd) (ps : List (List SP)) (F : List Res) : Prop where
  len : hs.length = ps.length
  mem : Mem w0 w (row kH 32 v hs :: (inner hs ps ++ F))
theorem PgM.read {w0 w : World} {v : Value} {hs : List Hd} {ps : List (List SP)} {F : List Res} (h : PgM w0 w v hs ps F) : ∃ A c, v = .slice A ps.length c ∧ ps.length ≤ c ∧ kH.C w A ps.length hs ∧ Kd.C (Kd.slice 41 kP) w A ps.length ps := by
  obtain ⟨A, c, hv, hc, hC⟩ := h.mem.row_at 0 rfl
  rw [h.len] at hv hc hC
  refine ⟨A, c, hv, hc, hC, rfl, hC.2.1, fun hp => ?_⟩
  obtain ⟨ad, e, hr⟩ := hC.2.2 hp
  refine ⟨ad, e, fun j p hj => ?_⟩
  have hlt : j < ps.length := (List.getElem?_eq_some_iff.1 hj).1
  obtain ⟨h0, hhs⟩ : ∃ h0, hs[j]? = some h0 := ⟨_, List.getElem?_eq_getElem (by rw [h.len]; exact hlt)⟩
  obtain ⟨cs, g1, g2, g3⟩ := hr j h0 hhs
  have hrow := h.mem.row_at (1 + j) (d := kP) (e := 41) (v := h0.v) (xs := p) (by
    rw [Nat.add_comm, List.getElem?_cons_succ, List.getElem?_append_left (by rw [inner_len h.len]; exact hlt)]
    exact inner_get hhs hj)
  obtain ⟨B, d, hb, hd, hB⟩ := hrow
  refine ⟨cs, g1, ⟨B, d, ?_, hd, hB⟩, g3⟩
  rw [← hb]
  exact g2
theorem C_none {α : Type} {d : Kd α} {w : World} {l : List α} (h : Kd.C d w none l.length l) : l = [] := by
  obtain ⟨_, _, h3⟩ := h
  cases l with
  | nil => rfl
  | cons x l => obtain ⟨ad, h4, _⟩ := h3 (Nat.zero_lt_succ _); cases h4
theorem Mem.row_nil {w0 w : World} {rs : List Res} {α : Type} (h : Mem w0 w rs) (d : Kd α) (e : Nat) : Mem w0 w (row d e (.slice none 0 0) [] :: rs) :=
  h.cons (Below.refl _ _) (Kd.R_nil _ _ _ _ _)
theorem clone_calls (A : Option Addr) (c : Nat) (l : List SP) (w : World) (hl : Kd.C kP w A l.length l) (hn : l.length ≤ 1000000000) :
    Calls Try.prog 73 #[.slice A l.length c] w fun e w' => ∃ v : Value, e = .returned v ∧ Mem w w' [row kP 41 v l] := by
  have HL := Aside0.mk hl
  have HN := Aside0.mk hn
  have M0 := Aside0.mk (Mem.nil w)
  have hq := fun (w : World) (n c : Nat) => Lib.run_eql_slice_nil (P := Try.prog) w 32 41 A n c 0 0 Try.underlying32
  cases A with
  | none =>
    obtain rfl := C_none hl
    clear hl hn
    go_enter Try.func73, Try.ntmps73
    go_wp2
    go_ret
    exact ⟨_, rfl, Mem.row_nil M0.out _ _⟩
  | some ad =>
    clear hl hn
    go_enter Try.func73, Try.ntmps73
    go_wp2_with (((with_reducible refine gate_builtin (b := .append) (xs := #[.tmp 5, .tmp 6]) rfl ?_); at_builtin; refine Mem.app kP ((M0.out.alloc #[] 41).lit 0 kP [] rfl (Reps.none _ _) (by decide)) 0 _ [] l rfl (.tmp 5) (.tmp 6) 32 41 _ _ rfl Try.underlying32 info41 rfl (by decide) (by omega) (some ad) _ c rfl rfl rfl (Kd.C_alloc HL.out _) (fun x cs h => by obtain rfl := k41_open h; exact k41_mkM _ _ _ x) (by have := HN.out; simp; omega) ?_; intro v1 w1 hM1; have M1 := Aside0.mk hM1; clear hM1))
    go_ret
    exact ⟨_, rfl, M1.out⟩
theorem copied_calls (A : Option Addr) (c : Nat) (ps : List (List SP)) (w : World) (hl : Kd.C (Kd.slice 41 kP) w A ps.length ps) (hn : ps.length ≤ 1000000) (hp : ∀ p ∈ ps, p.length ≤ 1000000) :
    Calls Try.prog 69 #[.slice A ps.length c] w fun e w' => ∃ (v : Value) (hs : List Hd), e = .returned v ∧ PgM w w' v hs ps [] := by
  have HL := Aside0.mk hl
  have HN := Aside0.mk hn
  have HP := Aside0.mk hp
  have M0 := Aside0.mk (Mem.row_nil (Mem.nil w) kH 32)
  clear hl hn hp
  go_enter Try.func69, Try.ntmps69
  go_wp2_with fail
  go_loopg [3, 5, 8] (ps.length + 1) (fun kq v3 v5 v8 w' => ∃ (k : Nat) (hs : List Hd), v8 = .int .i64 k ∧ Aside0 (k ≤ ps.length ∧ kq = ps.length + 1 - k) ∧ Aside0 (PgM w w' v3 hs (ps.take k) []))
  case atStart => exact ⟨0, [], rfl, ⟨by omega, by omega⟩, ⟨⟨rfl, M0.out⟩⟩⟩
  case round =>
    obtain ⟨k, hs, rfl, HK, M1⟩ := hrel
    clear M0
    by_cases hlt : k < ps.length
    · have hd1 : decide ((k : Int) < (ps.length : Int)) = true := decide_eq_true (by omega)
      have hkb : k < 1000000 := Nat.lt_of_lt_of_le hlt HN.out
      obtain ⟨ad, A0, c0, e, hx, hc0, hC0⟩ := at_L2 HL.out (k : Int) (by omega) (by omega)
      cases e
      have hx2 := (M1.out.mem.below.cell (World.block_lt_of_cell? w _ hx)).trans hx
      have hrd : rd_L2 ps (k : Int) = ps[k] := by unfold rd_L2; simp [List.getD, hlt]
      rw [hrd] at hx2 hc0 hC0
      rw [Int.toNat_natCast] at hx2
      have hi1 : ((k : Int) < (ps.length : Int)) = True := eq_true (by omega)
      have HC0 := Aside0.mk hC0
      clear hx hC0 hrd
      go_wp2_with fail
      refine (clone_calls A0 c0 ps[k] _ (Kd.C_below HC0.out M1.out.mem.below) (Nat.le_trans (HP.out _ (List.getElem_mem hlt)) (by decide))).mono ?_
      rintro e w1 ⟨v, rfl, hM⟩
      obtain ⟨B, d, rfl, hd, _⟩ := hM.row_at 0 rfl
      have M2 := Aside0.mk (M1.out.mem.trans hM)
      clear hM hd
      have M3 := Aside0.mk (M2.out.allocAt #[.slice B ps[k].length d] 32 w1.heap.size rfl)
      go_wp2_with (((with_reducible refine gate_builtin (b := .append) (xs := #[.tmp 12, .tmp 15]) rfl ?_); at_builtin; refine Mem.app kH (Rr := fun x c => x = (⟨B, ps[k].length, d⟩ : Hd) ∧ c = [(⟨B, ps[k].length, d⟩ : Hd).v]) M3.out 2 _ hs [⟨B, ps[k].length, d⟩] rfl (.tmp 12) (.tmp 15) 22 32 _ _ rfl Try.underlying22 info32 rfl (by decide) (by omega) (some ⟨w1.heap.size, 0, none⟩) 1 1 rfl rfl rfl (reads_one (⟨B, ps[k].length, d⟩ : Hd) (M3.out.blk_at 0 rfl) rfl) (fun x c h => by obtain ⟨rfl, rfl⟩ := h; exact flatH.mk_ _ _ _ _) (by have h1 := M1.out.len; rw [List.length_take] at h1; have := HN.out; omega) ?_; intro v1 w2 hM1; have M4 := Aside0.mk hM1; clear hM1))
      go_roundg (ps.length - k)
      case measure => have := HK.out; omega
      case rel =>
        refine ⟨k + 1, hs ++ [⟨B, ps[k].length, d⟩], by go_num, ⟨by omega, by omega⟩, ⟨⟨?_, ?_⟩⟩⟩
        · have h1 := M1.out.len
          rw [List.length_take] at h1
          rw [List.length_append, List.length_take, List.length_singleton]
          omega
        · rw [List.take_succ_eq_append_getElem hlt, inner_snoc M1.out.len, List.append_assoc]
          exact Mem.to_mid (Mem.sel (ps := [_, _, _]) (F := inner hs (ps.take k) ++ []) [2, 1] 3 M4.out rfl rfl)
    · have hd1 : decide ((k : Int) < (ps.length : Int)) = false := decide_eq_false (by omega)
      have hk : k = ps.length := by have := HK.out; omega
      have M2 := M1.out
      rw [hk, List.take_length] at M2
      have M3 := Aside0.mk M2
      clear M2 M1 hk
      go_wp2_with fail
      go_ret
      exact ⟨_, hs, rfl, M3.out⟩
end Go.Proofs.Ytookpmdgoednfaa.Pa
namespace Go.Proofs.Ytookpmdgoednfaa.Og
open Go.ChangeShapes Go.WideShapes Go.ChangeAt Go.RowKit Go.Deep YtookpmdgoednfaaW.PrintWords PPagePuts Pa Mx
def Opens (P : Program) (t : TypeId) {α : Type} (d : Kd α) : Prop := P.cellsOf t = d.sz ∧ ∀ {H : Type} (enc : TypeId × Value → H) (w : World) (base : Nat) (spare : Nat → Bool) (held : Bool) (fuel : Nat) (cs : List Value) (x : DataW H × List MemPlace), DataW.trod enc P w base spare held fuel t cs = some x → ∃ a : α, d.K w a cs
theorem opens_slice {P : Program} {t e : TypeId} {α : Type} {d : Kd α} (ht : P.underlying t = some (.slice e)) (hc : P.cellsOf t = 1) (hd : Opens P e d) : Opens P t (Kd.slice e d) := by
  refine ⟨hc, fun enc w base spare held fuel cs x h => ?_⟩
  rcases open_slice ht h with ⟨rfl, _⟩ | ⟨a, len, cap, m, n, D, Pl, rfl, hb, hl, hm, hmm, rfl, hx⟩
  · exact ⟨[], none, 0, rfl, Nat.le_refl _, Kd.C_nil d w⟩
  · have hlm : len ≤ m := by rw [hmm]; split <;> omega
    have hex : ∀ k, k ≤ len → ∃ l : List α, l.length = k ∧ ∀ j p, l[j]? = some p → ∃ cs', w.cells? base (a.add (j * P.cellsOf e)) (P.cellsOf e) = some cs' ∧ d.K w p cs' := by
      intro k
      induction k with
      | zero => exact fun _ => ⟨[], rfl, fun j p h => by simp at h⟩
      | succ k ih =>
        intro hk
        obtain ⟨l, h1, h2⟩ := ih (by omega)
        obtain ⟨cs', h3, h4⟩ := hx k (by omega)
        obtain ⟨y, hy⟩ := hd.2 enc w base spare held n cs' _ h4
        refine ⟨l ++ [y], by simp [h1], fun j p h => ?_⟩
        rw [List.getElem?_append] at h
        split at h
        · exact h2 j p h
        · have : j = k := by
            have := (List.getElem?_eq_some_iff.1 h).1
            simp at this
            omega
          subst this
          rw [h1, Nat.sub_self] at h
          obtain rfl : y = p := by simpa using h
          exact ⟨cs', h3, hy⟩
    obtain ⟨l, h1, h2⟩ := hex len (Nat.le_refl _)
    subst h1
    refine ⟨l, some a, cap, rfl, hl, rfl, ?_, fun _ => ⟨a, rfl, fun j p hj => ?_⟩⟩
    · have : maxLen ≤ 9223372036854775807 := by decide
      omega
    · obtain ⟨cs', h3, h4⟩ := h2 j p hj
      obtain ⟨_, h5, h6⟩ := World.cells?_some h3
      rw [hd.1] at h5 h6
      refine ⟨cs', h5, h4, fun i u hu => ?_⟩
      have hi : i < d.sz := by rw [← h5]; exact (List.getElem?_eq_some_iff.1 hu).1
      have := h6 i hi
      rw [Go.Deep.add_add] at this
      rw [this, hu]
end Go.Proofs.Ytookpmdgoednfaa.Og
namespace Go.Proofs.Ytookpmdgoednfaa.Mx
open Go.RowKit YtookpmdgoednfaaW.PrintWords YtookpmdgoednfaaW.PrintLast YtookpmdgoednfaaW.PrintMore
open Go.Maps (Keyed string_keyed)
/-- A value read as itself. -/
def tokR (v : Value) : Option (DataW Value × List MemPlace) := some (.held v, [])
def litK (k : ByteArray) : Lit := .string k.data.toList
theorem litK_inj {a b : ByteArray} (h : litK a = litK b) : a = b := by
  unfold litK at h
  injection h with h
  cases a; cases b
  congr 1
  exact Array.toList_inj.1 h
theorem keyK {P : Program} {K : TypeId} (hK : P.underlying K = some .string) {k : ByteArray} (hk : k.size ≤ maxLen) : keyOf P K (.string k) = some (litK k) := Go.WideMaps.keyOf_string_mk hK hk
/-- Block g is a map: S its keys, hdr what lies at each, n how many. -/
def MapAt (P : Program) (K : TypeId) (w : World) (g : Nat) (S : ByteArray → Prop) (hdr : ByteArray → Value) (n : Nat) : Prop :=
  ∃ D, w.ownsMap P K tokR g n D ∧ Maps.size D = n ∧ (∀ k, S k → k.size ≤ maxLen ∧ Maps.has D (litK k) = true ∧ ∀ z, D.atKey (litK k) z = .held (hdr k)) ∧ (∀ k, ¬ S k → Maps.has D (litK k) = false)
def mapB (P : Program) (K : TypeId) (g : Nat) (S : ByteArray → Prop) (hdr : ByteArray → Value) (n : Nat) : Res where
  holds w fp := fp g ∧ MapAt P K w g S hdr n
  move hm h := ⟨h.1, by obtain ⟨D, ⟨es, clock, hb, r⟩, rest⟩ := h.2; exact ⟨D, ⟨es, clock, (hm g h.1).trans hb, r⟩, rest⟩⟩
  mono hm h := ⟨hm g h.1, h.2⟩
section
variable {P : Program} {K e t : TypeId} {w0 w : World} {rs : List Res} {g n : Nat} {S : ByteArray → Prop} {hdr : ByteArray → Value}
theorem ownsMap_size {D : DataW Value} {n : Nat} (h : w.ownsMap P K tokR g n D) : w.ownsMap P K tokR g (Maps.size D) D := by
  obtain ⟨es, clock, hb, F, hs, rfl⟩ := h
  exact ⟨es, clock, hb, F, by rw [Maps.size_eq, length_sorted]; simp, rfl⟩
theorem MapAt.congr {S' : ByteArray → Prop} {hdr' : ByteArray → Value} (h : MapAt P K w g S hdr n) (hS : ∀ k, S' k ↔ S k) (hh : ∀ k, S k → hdr' k = hdr k) : MapAt P K w g S' hdr' n := by
  obtain ⟨D, h1, h2, h3, h4⟩ := h
  exact ⟨D, h1, h2, fun k hk => by obtain ⟨a, b, c⟩ := h3 k ((hS k).1 hk); exact ⟨a, b, fun z => by rw [c z, hh k ((hS k).1 hk)]⟩, fun k hk => h4 k (fun h => hk ((hS k).2 h))⟩
/-- 'make(map[..]..)' -/
theorem Mem.makeMap (h : Mem w0 w rs) (hdr : ByteArray → Value) : Mem w0 (w.alloc (.map #[] 0)) (mapB P K w.heap.size (fun _ => False) hdr 0 :: rs) := by
  refine h.cons (below_alloc (Below.refl _ _) _) ⟨⟨Nat.le_refl _, by simp⟩, .map [], World.ownsMap_made w P K tokR, rfl, fun k hk => hk.elim, fun k _ => rfl⟩
theorem Mem.map_at (h : Mem w0 w rs) (i : Nat) (hi : rs[i]? = some (mapB P K g S hdr n)) : MapAt P K w g S hdr n := (h.hold hi).2
/-- 'm[k]' -/
theorem MapAt.look (h : MapAt P K w g S hdr n) (hK : P.underlying K = some .string) (ht : P.underlying t = some (.map K e)) {z : Value} (hz : (zeroValue e).run P w = .ok z w) {k : ByteArray} (hk : k.size ≤ maxLen) :
    ∃ v, (Instr.lookup t (.map (some g)) (.string k) false).run P w = .ok v w ∧ (S k → v = hdr k) ∧ (¬ S k → v = z) := by
  obtain ⟨D, h1, h2, h3, h4⟩ := h
  obtain ⟨v, ps, hrun, hv⟩ := h1.lookup (string_keyed hK) ht hz (zd := .held z) (zp := []) rfl (keyK hK hk)
  unfold tokR at hv
  simp only [Option.some.injEq, Prod.mk.injEq] at hv
  refine ⟨v, hrun, fun hs => ?_, fun hs => ?_⟩
  · have := (h3 k hs).2.2 (.held z)
    rw [← hv.1] at this
    injection this
  · have := Maps.atKey_of_not_has (h4 k hs) (.held z)
    rw [← hv.1] at this
    injection this
/-- 'len(m)' -/
theorem MapAt.len (h : MapAt P K w g S hdr n) (ht : P.underlying t = some (.map K e)) (ty : TypeId) : (Builtin.len_ #[t] ty #[.map (some g)]).run P w = .ok (.int .i64 n) w := by
  obtain ⟨D, h1, h2, h3, h4⟩ := h
  rw [h1.len ht ty, h2]
/-- 'm[k] = v' -/
theorem Mem.map_put (h : Mem w0 w rs) (i : Nat) (hi : rs[i]? = some (mapB P K g S hdr n)) (hK : P.underlying K = some .string) (ht : P.underlying t = some (.map K e)) (hn : n < maxLen) {k : ByteArray} (hk : k.size ≤ maxLen) (v : Value) {n' : Nat} (hn' : (S k → n' = n) ∧ (¬ S k → n' = n + 1)) {S' : ByteArray → Prop} {hdr' : ByteArray → Value} (hS : ∀ j, S' j ↔ j = k ∨ S j) (hv : hdr' k = v) (hh : ∀ j, ¬ j = k → S j → hdr' j = hdr j) :
    ∃ w', (Instr.mapUpdate t (.map (some g)) (.string k) v).run P w = .ok () w' ∧ Mem w0 w' (rs.set i (mapB P K g S' hdr' n')) := by
  obtain ⟨f, ⟨hf, D, h1, h2, h3, h4⟩, hb, back⟩ := h.take1 hi
  obtain ⟨w', hrun, hown, hgrow⟩ := h1.update (string_keyed hK) ht hn (keyK hK hk) (show tokR v = some (.held v, []) from rfl)
  refine ⟨w', hrun, back w' _ hgrow.os hgrow.tape hgrow.output hgrow.size (fun j hj hne => hgrow.block j hj (fun e1 => hne (by cases e1; exact hf))) ?_⟩
  have hkey : WideAt.IsKeyLit (litK k) := trivial
  have hsz : Maps.size (D.put (litK k) (.held v)) = n' := by
    rw [Maps.size_put (h1.tidy (string_keyed hK))]
    by_cases hs : S k
    · rw [if_pos (h3 k hs).2.1, h2, hn'.1 hs]
    · rw [if_neg (by rw [h4 k hs]; simp), h2, hn'.2 hs]
  refine ⟨.inl hf, D.put (litK k) (.held v), hsz ▸ ownsMap_size hown, hsz, fun j hj => ?_, fun j hj => ?_⟩
  · by_cases e1 : j = k
    · subst e1
      exact ⟨hk, Maps.has_put_same h1.isMap hkey _, fun z => by rw [Maps.atKey_put_same h1.isMap hkey, hv]⟩
    · have hs : S j := ((hS j).1 hj).resolve_left e1
      obtain ⟨a, b, c⟩ := h3 j hs
      have hne : litK j ≠ litK k := fun e2 => e1 (litK_inj e2)
      exact ⟨a, by rw [Maps.has_put_other hne]; exact b, fun z => by rw [Maps.atKey_put_other hne, c z, hh j e1 hs]⟩
  · have e1 : ¬ j = k := fun e1 => hj ((hS j).2 (.inl e1))
    have hs : ¬ S j := fun e2 => hj ((hS j).2 (.inr e2))
    rw [Maps.has_put_other (fun e2 => e1 (litK_inj e2))]
    exact h4 j hs
/-- 'delete(m, k)' -/
theorem Mem.map_del (h : Mem w0 w rs) (i : Nat) (hi : rs[i]? = some (mapB P K g S hdr n)) (hK : P.underlying K = some .string) (ht : P.underlying t = some (.map K e)) {k : ByteArray} (hk : k.size ≤ maxLen) (hs : S k) (ty : TypeId) {S' : ByteArray → Prop} {n' : Nat} (hn : n = n' + 1) (hS : ∀ j, S' j ↔ ¬ j = k ∧ S j) :
    ∃ w', (Builtin.delete_ #[t, K] ty #[.map (some g), .string k]).run P w = .ok (.tuple #[]) w' ∧ Mem w0 w' (rs.set i (mapB P K g S' hdr n')) := by
  obtain ⟨f, ⟨hf, D, h1, h2, h3, h4⟩, hb, back⟩ := h.take1 hi
  obtain ⟨w', hrun, hown, hturn⟩ := h1.drop (string_keyed hK) ht (keyK hK hk) ty
  have hgrow := hturn.grown
  refine ⟨w', hrun, back w' _ hgrow.os hgrow.tape hgrow.output hgrow.size (fun j hj hne => hgrow.block j hj (fun e1 => hne (by cases e1; exact hf))) ?_⟩
  have hsz : Maps.size (D.del (litK k)) = n' := by
    have := Maps.size_del (k := litK k) (h1.tidy (string_keyed hK))
    rw [if_pos (h3 k hs).2.1, h2] at this
    omega
  refine ⟨.inl hf, D.del (litK k), hsz ▸ ownsMap_size hown, hsz, fun j hj => ?_, fun j hj => ?_⟩
  · obtain ⟨e1, hs'⟩ := (hS j).1 hj
    obtain ⟨a, b, c⟩ := h3 j hs'
    have hne : litK j ≠ litK k := fun e2 => e1 (litK_inj e2)
    exact ⟨a, by rw [Maps.has_del_other hne]; exact b, fun z => by rw [Maps.atKey_del_other hne, c z]⟩
  · by_cases e1 : j = k
    · rw [e1]; exact Maps.has_del_same
    · rw [Maps.has_del_other (fun e2 => e1 (litK_inj e2))]
      exact h4 j (fun e2 => hj ((hS j).2 ⟨e1, e2⟩))
end
/-! ### rows told by keys -/
/-- At each key of S a row of its own. -/
def rowsK {α : Type} (d : Kd α) (e : Nat) (S : ByteArray → Prop) (hdr : ByteArray → Value) (xs : ByteArray → List α) : Res where
  holds w fp := ∃ c : Nat → ByteArray, ∀ k, S k → (row d e (hdr k) (xs k)).holds w (fun b => fp b ∧ c b = k)
  move hm h := by
    obtain ⟨c, h⟩ := h
    exact ⟨c, fun k hk => (row d e (hdr k) (xs k)).move (fun b hb => hm b hb.1) (h k hk)⟩
  mono hm h := by
    obtain ⟨c, h⟩ := h
    exact ⟨c, fun k hk => (row d e (hdr k) (xs k)).mono (fun b hb => ⟨hm b hb.1, hb.2⟩) (h k hk)⟩
section
variable {α : Type} {d : Kd α} {e : Nat} {w0 w : World} {F : List Res} {S : ByteArray → Prop} {hdr : ByteArray → Value} {xs : ByteArray → List α}
theorem Mem.rows_none (h : Mem w0 w F) : Mem w0 w (rowsK d e (fun _ => False) hdr xs :: F) := h.cons (Below.refl _ _) ⟨fun _ => ⟨#[]⟩, fun _ hk => hk.elim⟩
theorem Mem.rows_congr {S' : ByteArray → Prop} {hdr' : ByteArray → Value} {xs' : ByteArray → List α} (h : Mem w0 w F) (i : Nat) (hi : F[i]? = some (rowsK d e S hdr xs)) (hS : ∀ k, S' k → S k) (hh : ∀ k, S' k → hdr' k = hdr k) (hx : ∀ k, S' k → xs' k = xs k) : Mem w0 w (F.set i (rowsK d e S' hdr' xs')) :=
  h.imp hi _ (fun f ⟨c, hc⟩ => ⟨c, fun k hk => by rw [hh k hk, hx k hk]; exact hc k (hS k hk)⟩)
/-- One key's row is read. -/
theorem Mem.rows_at (h : Mem w0 w F) (i : Nat) (hi : F[i]? = some (rowsK d e S hdr xs)) {k : ByteArray} (hk : S k) : ∃ A c, hdr k = .slice A (xs k).length c ∧ (xs k).length ≤ c ∧ d.C w A (xs k).length (xs k) := by
  obtain ⟨c, hc⟩ := h.hold hi
  exact Kd.R_reads (hc k hk)
/-- .. and taken out. -/
theorem Mem.rows_take (h : Mem w0 w (rowsK d e S hdr xs :: F)) {k : ByteArray} (hk : S k) {S' : ByteArray → Prop} (hS : ∀ j, S' j → ¬ j = k ∧ S j) : Mem w0 w (row d e (hdr k) (xs k) :: rowsK d e S' hdr xs :: F) := by
  obtain ⟨h1, h2, h3, h4, h5, c, h6⟩ := h
  obtain ⟨ck, hck⟩ := h6 0 _ rfl
  open Classical in
  refine ⟨h1, h2, h3, h4, h5, fun b => if c b = 0 then (if ck b = k then 0 else 1) else c b + 1, fun i r hr => ?_⟩
  match i, hr with
  | 0, hr =>
    have : r = row d e (hdr k) (xs k) := by simpa using hr.symm
    subst this
    refine (row d e (hdr k) (xs k)).mono (fun b hb => ⟨hb.1.1, hb.1.2.1, ?_⟩) (hck k hk)
    simp only [hb.1.2.2, hb.2, if_true]
  | 1, hr =>
    have : r = rowsK d e S' hdr xs := by simpa using hr.symm
    subst this
    refine ⟨ck, fun j hj => (row d e (hdr j) (xs j)).mono (fun b hb => ⟨⟨hb.1.1, hb.1.2.1, ?_⟩, hb.2⟩) (hck j (hS j hj).2)⟩
    simp only [hb.1.2.2, if_true]
    rw [if_neg (by rw [hb.2]; exact (hS j hj).1)]
  | i + 2, hr =>
    have hr' : (rowsK d e S hdr xs :: F)[i + 1]? = some r := by simpa using hr
    refine r.mono (fun b hb => ⟨hb.1, hb.2.1, ?_⟩) (h6 (i + 1) r hr')
    simp only [hb.2.2]
    rw [if_neg (by omega)]
/-- .. and laid in. -/
theorem Mem.rows_put {v : Value} {ys : List α} (h : Mem w0 w (row d e v ys :: rowsK d e S hdr xs :: F)) {k : ByteArray} (hk : ¬ S k) {S' : ByteArray → Prop} {hdr' : ByteArray → Value} {xs' : ByteArray → List α} (hS : ∀ j, S' j → j = k ∨ S j) (hv : hdr' k = v) (hy : xs' k = ys) (hh : ∀ j, ¬ j = k → S' j → hdr' j = hdr j ∧ xs' j = xs j) : Mem w0 w (rowsK d e S' hdr' xs' :: F) := by
  obtain ⟨h1, h2, h3, h4, h5, c, h6⟩ := h
  have hr0 := h6 0 _ rfl
  obtain ⟨ck, hck⟩ := h6 1 _ rfl
  open Classical in
  refine ⟨h1, h2, h3, h4, h5, fun b => if c b ≤ 1 then 0 else c b - 1, fun i r hr => ?_⟩
  cases i with
  | zero =>
    have : r = rowsK d e S' hdr' xs' := by simpa using hr.symm
    subst this
    refine ⟨fun b => if c b = 0 then k else ck b, fun j hj => ?_⟩
    by_cases e1 : j = k
    · subst e1
      rw [hv, hy]
      refine (row d e v ys).mono (fun b hb => ⟨⟨hb.1, hb.2.1, ?_⟩, ?_⟩) hr0
      · simp only [hb.2.2]; rfl
      · simp only [hb.2.2, if_true]
    · have hs := (hS j hj).resolve_left e1
      rw [(hh j e1 hj).1, (hh j e1 hj).2]
      refine (row d e (hdr j) (xs j)).mono (fun b hb => ⟨⟨hb.1.1, hb.1.2.1, ?_⟩, ?_⟩) (hck j hs)
      · simp only [hb.1.2.2]; rfl
      · simp only [hb.1.2.2]
        exact hb.2
  | succ i =>
    have hr' : (row d e v ys :: rowsK d e S hdr xs :: F)[i + 2]? = some r := by simpa using hr
    refine r.mono (fun b hb => ⟨hb.1, hb.2.1, ?_⟩) (h6 (i + 2) r hr')
    simp only [hb.2.2]
    rw [if_neg (by omega)]
    rfl
end
/-! ### several as one -/
section
variable {w0 w : World} {F L : List Res}
theorem Mem.open_star (h : Mem w0 w (star L :: F)) : Mem w0 w (L ++ F) := by
  obtain ⟨h1, h2, h3, h4, h5, c, h6⟩ := h
  obtain ⟨cs, hs⟩ := h6 0 _ rfl
  refine ⟨h1, h2, h3, h4, h5, fun b => if c b = 0 then (if cs b < L.length then cs b else L.length + F.length) else L.length + (c b - 1), fun i r hr => ?_⟩
  by_cases hi : i < L.length
  · rw [List.getElem?_append_left hi] at hr
    refine r.mono (fun b hb => ⟨hb.1.1, hb.1.2.1, ?_⟩) (hs i r hr)
    simp only [hb.1.2.2, hb.2, if_true]
    rw [if_pos hi]
  · rw [List.getElem?_append_right (by omega)] at hr
    refine r.mono (fun b hb => ⟨hb.1, hb.2.1, ?_⟩) (h6 (i - L.length + 1) r (by simpa using hr))
    simp only [hb.2.2]
    rw [if_neg (by omega)]
    omega
theorem Mem.shut_star (h : Mem w0 w (L ++ F)) : Mem w0 w (star L :: F) := by
  obtain ⟨h1, h2, h3, h4, h5, c, h6⟩ := h
  refine ⟨h1, h2, h3, h4, h5, fun b => if c b < L.length then 0 else c b - L.length + 1, fun i r hr => ?_⟩
  cases i with
  | zero =>
    have : r = star L := by simpa using hr.symm
    subst this
    refine ⟨c, fun j q hq => ?_⟩
    have hj := (List.getElem?_eq_some_iff.1 hq).1
    refine q.mono (fun b hb => ⟨⟨hb.1, hb.2.1, ?_⟩, hb.2.2⟩) (h6 j q (by rw [List.getElem?_append_left hj]; exact hq))
    simp only [hb.2.2]
    rw [if_pos hj]
  | succ i =>
    refine r.mono (fun b hb => ⟨hb.1, hb.2.1, ?_⟩) (h6 (L.length + i) r (by rw [List.getElem?_append_right (by omega), show L.length + i - L.length = i by omega]; simpa using hr))
    simp only [hb.2.2]
    rw [if_neg (by omega)]
    omega
end
end Go.Proofs.Ytookpmdgoednfaa.Mx
namespace Go.Proofs.Ytookpmdgoednfaa.Py
open Go.RowKit YtookpmdgoednfaaW.PrintWords YtookpmdgoednfaaW.PrintLast YtookpmdgoednfaaW.PrintMore PPagePuts
abbrev SP := S41
def kof (x : SP) : List UInt8 := x.f0.toList
/-- Keys rise, from one on. -/
def asc : Option (List UInt8) → List SP → Bool
  | _, [] => true
  | o, x :: l => (match o with | none => true | some k => Op.bytesLess k (kof x)) && asc (some (kof x)) l
def fits (p : List SP) : Bool := decide (1 ≤ p.length) && decide (p.length ≤ 8)
def sizes (ps : List (List SP)) : Bool := ps.all fits
def R (o : Option (List UInt8)) (ps : List (List SP)) : Bool := sizes ps && asc o ps.flatten
def right (ps : List (List SP)) : Bool := R none ps
theorem wrap_one {j n : Nat} (h : j < n) (hn : n ≤ 9223372036854775807) : wrap64 ((j : Int) + 1) = ((j + 1 : Nat) : Int) := by
  unfold wrap64
  push_cast
  omega
theorem rdL {ps : List (List SP)} {i : Nat} (h : i < ps.length) : rd_L2 ps (i : Int) = ps[i] := by unfold rd_L2; simp [List.getD, h]
theorem rdT {p : List SP} {j : Nat} (h : j < p.length) : rd_T41 p (j : Int) = p[j] := by unfold rd_T41; simp [List.getD, h]
/-! ### the program's -/
theorem right_l1 (ps : List (List SP)) (hn : ps.length ≤ 9223372036854775807) (i : Nat) (hi : i < ps.length) (p : List SP) (hp : p.length ≤ 8)
    (H : ∀ last : ByteArray, Ev (fun k => page_Right.l0 k last true ps ps.length ((i + 1 : Nat) : Int)) (R (some last.toList) (ps.drop (i + 1)))) :
    ∀ (d j : Nat) (last : ByteArray) (sm : Bool), p.length - j = d → j ≤ p.length → (j = p.length → sm = true) →
      Ev (fun k => page_Right.l1 k last sm ps ps.length i p p.length j) (sizes (ps.drop (i + 1)) && asc (if sm = true then some last.toList else none) (p.drop j ++ (ps.drop (i + 1)).flatten)) := by
  intro d
  induction d with
  | zero =>
    intro j last sm hd hj hs
    obtain rfl : j = p.length := by omega
    obtain rfl := hs rfl
    refine Ev.step (f := fun k => page_Right.l0 k last true ps ps.length ((i + 1 : Nat) : Int)) (fun k => ?_) ?_
    · simp only [page_Right.l1]
      rw [if_neg (by omega), wrap_one hi hn]
    · rw [List.drop_length, List.nil_append, if_pos rfl]
      exact H last
  | succ d ih =>
    intro j last sm hd hj hs
    have hlt : j < p.length := by omega
    have ih' := ih (j + 1) p[j].f0 true (by omega) (by omega) (fun _ => rfl)
    rw [if_pos rfl] at ih'
    have e1 : p.drop j ++ (ps.drop (i + 1)).flatten = p[j] :: (p.drop (j + 1) ++ (ps.drop (i + 1)).flatten) := by rw [List.drop_eq_getElem_cons hlt, List.cons_append]
    rw [e1]
    have hw : wrap64 ((j : Int) + 1) = ((j + 1 : Nat) : Int) := wrap_one hlt (by omega)
    cases sm with
    | false =>
      refine Ev.step (f := fun k => page_Right.l1 k p[j].f0 true ps ps.length i p p.length ((j + 1 : Nat) : Int)) (fun k => ?_) ?_
      · simp only [page_Right.l1]
        rw [if_pos (by omega), if_pos (by omega), if_pos (by omega), rdT hlt, hw]
        simp
      · rw [if_neg (by simp)]
        simpa [asc, kof] using ih'
    | true =>
      rw [if_pos rfl]
      cases hb : Op.bytesLess last.toList p[j].f0.toList with
      | true =>
        refine Ev.step (f := fun k => page_Right.l1 k p[j].f0 true ps ps.length i p p.length ((j + 1 : Nat) : Int)) (fun k => ?_) ?_
        · simp only [page_Right.l1]
          rw [if_pos (by omega), if_pos (by omega), if_pos (by omega), rdT hlt, hw, if_pos trivial, if_pos hb]
        · have e2 : asc (some last.toList) (p[j] :: (p.drop (j + 1) ++ (ps.drop (i + 1)).flatten)) = asc (some p[j].f0.toList) (p.drop (j + 1) ++ (ps.drop (i + 1)).flatten) := by
            show (Op.bytesLess last.toList (kof p[j]) && _) = _
            unfold kof
            rw [hb, Bool.true_and]
          rw [e2]
          exact ih'
      | false =>
        refine Ev.step (f := fun k => some false) (fun k => ?_) ?_
        · simp only [page_Right.l1]
          rw [if_pos (by omega), if_pos (by omega), if_pos (by omega), rdT hlt, if_pos trivial, if_neg (by rw [hb]; simp)]
        · have e2 : asc (some last.toList) (p[j] :: (p.drop (j + 1) ++ (ps.drop (i + 1)).flatten)) = false := by
            show (Op.bytesLess last.toList (kof p[j]) && _) = _
            unfold kof
            rw [hb, Bool.false_and]
          rw [e2, Bool.and_false]
          exact Ev.now false
theorem right_l0 (ps : List (List SP)) (hn : ps.length ≤ 9223372036854775807) : ∀ (d i : Nat) (last : ByteArray) (sm : Bool), ps.length - i = d → i ≤ ps.length → Ev (fun k => page_Right.l0 k last sm ps ps.length i) (R (if sm = true then some last.toList else none) (ps.drop i)) := by
  intro d
  induction d with
  | zero =>
    intro i last sm hd hi
    obtain rfl : i = ps.length := by omega
    refine Ev.step (f := fun k => some true) (fun k => ?_) ?_
    · simp only [page_Right.l0]
      rw [if_neg (by omega)]
    · rw [List.drop_length]
      exact Ev.now true
  | succ d ih =>
    intro i last sm hd hi
    have hlt : i < ps.length := by omega
    have e0 : ps.drop i = ps[i] :: ps.drop (i + 1) := List.drop_eq_getElem_cons hlt
    have e1 : R (if sm = true then some last.toList else none) (ps.drop i) = (fits ps[i] && (sizes (ps.drop (i + 1)) && asc (if sm = true then some last.toList else none) (ps[i] ++ (ps.drop (i + 1)).flatten))) := by
      rw [e0]
      unfold R sizes
      rw [List.all_cons, List.flatten_cons, Bool.and_assoc]
    rw [e1]
    by_cases h1 : ps[i].length < 1
    · have hf : fits ps[i] = false := by unfold fits; simp; omega
      rw [hf, Bool.false_and]
      refine Ev.step (f := fun k => page_Right.j1 k last sm ps[i] ps ps.length i true) (fun k => ?_) (Ev.step (f := fun k => some false) (fun k => ?_) (Ev.now false))
      · simp only [page_Right.l0]
        rw [if_pos (by omega), if_pos (by omega), if_pos (by omega), rdL hlt, if_pos (by omega)]
      · simp only [page_Right.j1]
        rw [if_pos trivial]
    · by_cases h8 : ps[i].length > 8
      · have hf : fits ps[i] = false := by unfold fits; simp; omega
        rw [hf, Bool.false_and]
        refine Ev.step (f := fun k => page_Right.j1 k last sm ps[i] ps ps.length i true) (fun k => ?_) (Ev.step (f := fun k => some false) (fun k => ?_) (Ev.now false))
        · simp only [page_Right.l0]
          rw [if_pos (by omega), if_pos (by omega), if_pos (by omega), rdL hlt, if_neg (by omega), decide_eq_true (by omega)]
        · simp only [page_Right.j1]
          rw [if_pos trivial]
      · have hf : fits ps[i] = true := by unfold fits; simp; omega
        rw [hf, Bool.true_and]
        refine Ev.step (f := fun k => page_Right.j1 k last sm ps[i] ps ps.length i false) (fun k => ?_) (Ev.step (f := fun k => page_Right.l1 k last sm ps ps.length i ps[i] ps[i].length 0) (fun k => ?_) ?_)
        · simp only [page_Right.l0]
          rw [if_pos (by omega), if_pos (by omega), if_pos (by omega), rdL hlt, if_neg (by omega), decide_eq_false (by omega)]
        · simp only [page_Right.j1]
          rw [if_neg (by simp)]
        · have h := right_l1 ps hn i hlt ps[i] (by omega) (fun l => by have h2 := ih (i + 1) l true (by omega) (by omega); rw [if_pos rfl] at h2; exact h2) ps[i].length 0 last sm (by omega) (by omega) (fun h => by omega)
          rw [List.drop_zero] at h
          exact h
theorem page_right (ps : List (List SP)) (hn : ps.length ≤ 9223372036854775807) : Ev (fun k => page_Right.f k ps) (right ps) := by
  have h := right_l0 ps hn ps.length 0 ⟨#[]⟩ false (by omega) (by omega)
  exact h
/-! ### the reference's -/
end Go.Proofs.Ytookpmdgoednfaa.Py
namespace Go.Proofs.Ytookpmdgoednfaa.PPagePuts
end Go.Proofs.Ytookpmdgoednfaa.PPagePuts
namespace Go.Proofs.Ytookpmdgoednfaa.Px
open Go.RowKit YtookpmdgoednfaaW.PrintWords YtookpmdgoednfaaW.PrintLast YtookpmdgoednfaaW.PrintMore PPagePuts Py
abbrev lt := Op.bytesLess
theorem lt_irrefl (a : List UInt8) : lt a a = false := by
  have := Le.bl_tri a a
  simpa using this
theorem lt_asymm {a b : List UInt8} (h : lt a b = true) : lt b a = false := by
  have := Le.bl_tri a b
  rw [show Op.bytesLess a b = true from h, Bool.true_or] at this
  simpa using this.symm
theorem lt_of_not {a b : List UInt8} (h : lt a b = false) (hne : ¬ a = b) : lt b a = true := by
  have := Le.bl_tri a b
  rw [show Op.bytesLess a b = false from h, Bool.false_or] at this
  have e : (a == b) = false := by simpa using hne
  rw [e] at this
  simpa using this.symm
theorem lt_trans : ∀ {a b c : List UInt8}, lt a b = true → lt b c = true → lt a c = true
  | _, _, [], _, h => by simp [lt, Op.bytesLess] at h
  | _, [], _ :: _, h, _ => by simp [lt, Op.bytesLess] at h
  | [], _ :: _, _ :: _, _, _ => by simp [lt, Op.bytesLess]
  | a :: x, b :: y, c :: z, h1, h2 => by
    simp only [lt, Op.bytesLess, Bool.or_eq_true, decide_eq_true_eq, Bool.and_eq_true, beq_iff_eq] at h1 h2 ⊢
    rcases h1 with h1 | ⟨rfl, h1⟩
    · rcases h2 with h2 | ⟨rfl, h2⟩
      · left
        have g1 : a.toNat < b.toNat := h1
        have g2 : b.toNat < c.toNat := h2
        show a.toNat < c.toNat
        omega
      · exact .inl h1
    · rcases h2 with h2 | ⟨rfl, h2⟩
      · exact .inl h2
      · exact .inr ⟨rfl, lt_trans h1 h2⟩
def Bef (x y : SP) : Prop := lt (kof x) (kof y) = true
theorem asc_all : ∀ (l : List SP) (k : List UInt8), asc (some k) l = true → ∀ x ∈ l, lt k (kof x) = true
  | [], _, _, _, h => by cases h
  | y :: l, k, h, x, hx => by
    simp only [asc, Bool.and_eq_true] at h
    rcases List.mem_cons.1 hx with rfl | hx
    · exact h.1
    · exact lt_trans h.1 (asc_all l (kof y) h.2 x hx)
theorem asc_pair : ∀ (l : List SP) (o : Option (List UInt8)), asc o l = true → l.Pairwise Bef
  | [], _, _ => List.Pairwise.nil
  | y :: l, o, h => by
    simp only [asc, Bool.and_eq_true] at h
    exact List.Pairwise.cons (fun x hx => asc_all l (kof y) h.2 x hx) (asc_pair l _ h.2)
structure Rt (ps : List (List SP)) : Prop where
  len : ∀ p ∈ ps, 0 < p.length ∧ p.length ≤ 8
  page : ∀ p ∈ ps, p.Pairwise Bef
  pages : ps.Pairwise (fun p q => ∀ x ∈ p, ∀ y ∈ q, Bef x y)
theorem rt_of {ps : List (List SP)} (h : right ps = true) : Rt ps := by
  unfold right R at h
  rw [Bool.and_eq_true] at h
  have hp := List.pairwise_flatten.1 (asc_pair _ _ h.2)
  refine ⟨fun p hp => ?_, hp.1, hp.2⟩
  have := List.all_eq_true.1 h.1 p hp
  unfold fits at this
  simp at this
  omega
/-- Where a test changes over. -/
theorem cut {α : Type} (f : α → Bool) : ∀ (l : List α), l.Pairwise (fun x y => f y = true → f x = true) → ∃ k, k ≤ l.length ∧ (∀ t x, l[t]? = some x → t < k → f x = true) ∧ (∀ t x, l[t]? = some x → k ≤ t → f x = false)
  | [], _ => ⟨0, Nat.le_refl _, fun t x h => by simp at h, fun t x h => by simp at h⟩
  | a :: l, h => by
    obtain ⟨h1, h2⟩ := List.pairwise_cons.1 h
    cases ha : f a with
    | false =>
      refine ⟨0, Nat.zero_le _, fun t x _ ht => by omega, fun t x hx _ => ?_⟩
      cases t with
      | zero => simp at hx; rw [← hx]; exact ha
      | succ t =>
        have hm : x ∈ l := List.mem_of_getElem? (by simpa using hx)
        cases hf : f x with
        | false => rfl
        | true => rw [h1 x hm hf] at ha; cases ha
    | true =>
      obtain ⟨k, g1, g2, g3⟩ := cut f l h2
      refine ⟨k + 1, by simpa using g1, fun t x hx ht => ?_, fun t x hx ht => ?_⟩
      · cases t with
        | zero => simp at hx; rw [← hx]; exact ha
        | succ t => exact g2 t x (by simpa using hx) (by omega)
      · cases t with
        | zero => omega
        | succ t => exact g3 t x (by simpa using hx) (by omega)
def fk (p : List SP) : List UInt8 := (rd_T41 p 0).f0.toList
theorem fk_mem {p : List SP} (h : 0 < p.length) : ∃ x ∈ p, fk p = kof x := ⟨p[0], List.getElem_mem h, by unfold fk kof; rw [show (0 : Int) = ((0 : Nat) : Int) from rfl, rdT h]⟩
/-- The pages whose first key is not behind a key. -/
theorem page_cut {ps : List (List SP)} (h : Rt ps) (key : List UInt8) : ∃ k, k ≤ ps.length ∧ (∀ t : Nat, t < k → lt key (fk (rd_L2 ps t)) = false) ∧ (∀ t : Nat, k ≤ t → t < ps.length → lt key (fk (rd_L2 ps t)) = true) := by
  obtain ⟨k, h1, h2, h3⟩ := cut (fun p => !lt key (fk p)) ps (by
    have h4 : ps.Pairwise (fun p q => (p ∈ ps ∧ q ∈ ps) ∧ ∀ x ∈ p, ∀ y ∈ q, Bef x y) := List.Pairwise.imp_of_mem (fun hp hq hr => ⟨⟨hp, hq⟩, hr⟩) h.pages
    refine h4.imp (fun {p q} hr hq => ?_)
    obtain ⟨x, hx, ex⟩ := fk_mem (h.len p hr.1.1).1
    obtain ⟨y, hy, ey⟩ := fk_mem (h.len q hr.1.2).1
    have hb : lt (kof x) (kof y) = true := hr.2 x hx y hy
    rw [← ex, ← ey] at hb
    cases hc : lt key (fk p) with
    | false => simp
    | true =>
      have := lt_trans hc hb
      simp only [this] at hq
      cases hq)
  refine ⟨k, h1, fun t ht => ?_, fun t ht hl => ?_⟩
  · have hl : t < ps.length := by omega
    have := h2 t ps[t] (List.getElem?_eq_getElem hl) ht
    rw [rdL hl]
    simpa using this
  · have := h3 t ps[t] (List.getElem?_eq_getElem hl) ht
    rw [rdL hl]
    simpa using this
/-- The pairs ahead of a key. -/
theorem pair_cut {p : List SP} (h : p.Pairwise Bef) (key : List UInt8) : ∃ i, i ≤ p.length ∧ (∀ t : Nat, t < i → lt (rd_T41 p t).f0.toList key = true) ∧ (∀ t : Nat, i ≤ t → t < p.length → lt (rd_T41 p t).f0.toList key = false) := by
  obtain ⟨k, h1, h2, h3⟩ := cut (fun x => lt (kof x) key) p (h.imp (fun {x y} hr hq => lt_trans hr hq))
  refine ⟨k, h1, fun t ht => ?_, fun t ht hl => ?_⟩
  · have hl : t < p.length := by omega
    rw [rdT hl]
    exact h2 t p[t] (List.getElem?_eq_getElem hl) ht
  · rw [rdT hl]
    exact h3 t p[t] (List.getElem?_eq_getElem hl) ht
/-! ### the reference's -/
/-- A page that may be too long is parted. -/
def part (q : List SP) : List (List SP) := if q.length > 8 then [q.take 4, q.drop 4] else [q]
end Go.Proofs.Ytookpmdgoednfaa.Px
namespace Go.Proofs.Ytookpmdgoednfaa.Pz
open Go.RowKit YtookpmdgoednfaaW.PrintWords YtookpmdgoednfaaW.PrintLast YtookpmdgoednfaaW.PrintMore PPagePuts Py Px
def alike (x y : SP) : Prop := x.f0.toList = y.f0.toList ∧ x.f1.toList = y.f1.toList
def Al (p q : List SP) : Prop := p.length = q.length ∧ ∀ j : Nat, ∀ x y, p[j]? = some x → q[j]? = some y → alike x y
theorem Al_refl (p : List SP) : Al p p := ⟨rfl, fun j x y h1 h2 => by rw [h1] at h2; cases h2; exact ⟨rfl, rfl⟩⟩
theorem pairs_ev (p q : List SP) (h : Al p q) (hn : p.length ≤ 100000) : Ev (fun k => falseworkref7_Pairs.f k p q) true := by
  have H : ∀ (d j : Nat), p.length - j = d → j ≤ p.length → Ev (fun k => falseworkref7_Pairs.l0 k p q j) true := by
    intro d
    induction d with
    | zero =>
      intro j hd hj
      exact Ev.step (f := fun _ => some true) (fun k => by simp only [falseworkref7_Pairs.l0]; rw [if_neg (by omega)]) (Ev.now true)
    | succ d ih =>
      intro j hd hj
      have hlt : j < p.length := by omega
      have hlq : j < q.length := by rw [← h.1]; exact hlt
      have ha := h.2 j p[j] q[j] (List.getElem?_eq_getElem hlt) (List.getElem?_eq_getElem hlq)
      refine Ev.step (f := fun k => falseworkref7_Pairs.l0 k p q ((j + 1 : Nat) : Int)) (fun k => ?_) (ih (j + 1) (by omega) (by omega))
      simp only [falseworkref7_Pairs.l0]
      rw [if_pos (by omega), if_pos (by omega), if_pos (by omega), rdT hlt, rdT hlq, if_neg (by rw [ha.1, ha.2]; simp), wrap_one hlt (by omega)]
  refine Ev.congr (f := fun k => falseworkref7_Pairs.l0 k p q ((0 : Nat) : Int)) (fun k => ?_) (H p.length 0 (by omega) (by omega))
  unfold falseworkref7_Pairs.f
  rw [if_pos (by rw [h.1])]
  rfl
end Go.Proofs.Ytookpmdgoednfaa.Pz
