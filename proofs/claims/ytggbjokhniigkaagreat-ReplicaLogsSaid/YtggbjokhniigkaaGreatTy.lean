/- The data of the replica: entries, messages, replicas, and what is done to them, in plain words. No condition. -/
namespace Go.Proofs.YtggbjokhniigkaaGreat.Ty
structure Entry where
  f0 : Int
  f1 : ByteArray

structure Msg where
  f0 : Int
  f1 : Int
  f2 : Int
  f3 : Int
  f4 : Int
  f5 : Int
  f6 : Int
  f7 : (List Entry)

structure Rep where
  f0 : Int
  f1 : Int
  f2 : Int
  f3 : Int
  f4 : Int
  f5 : (List Entry)
  f6 : Int
  f7 : (List Int)
  f8 : (List Int)
  f9 : (List Int)
  f10 : (List Entry)
  f11 : Int
  f12 : Int

/-! ### what may be -/
def maxTime : Int := 1099511627776
def below (n : Int) : Bool := decide (0 ≤ n) && decide (n < maxTime)
def size (n : Int) : Bool := decide (n = 1) || decide (n = 3) || decide (n = 5)
/-- From 'last' on the times rise. -/
def rises : Int → List Entry → Bool
  | _, [] => true
  | last, e :: l => decide (last < e.f0) && decide (e.f0 < maxTime) && decide (e.f1.size ≤ 20000) && rises e.f0 l
def log (l : List Entry) : Bool := rises 0 l && decide (l.length ≤ 1000)
def idsFrom (n : Int) : Int → List Int → Bool
  | _, [] => true
  | last, x :: l => decide (last < x) && decide (x < n) && idsFrom n x l
def ids (l : List Int) (n : Int) : Bool := idsFrom n (-1) l
def may (r : Rep) : Bool :=
  size r.f1 && decide (0 ≤ r.f0) && decide (r.f0 < r.f1) && below r.f2 && below r.f3 && decide (r.f3 ≤ r.f2) && decide (0 ≤ r.f4) && decide (r.f4 ≤ 2) && !(decide (r.f4 = 0) && decide (r.f3 ≠ r.f2)) &&
  log r.f5 && decide (0 ≤ r.f6) && decide (r.f6 ≤ (r.f5.length : Int)) && decide ((r.f7.length : Int) = r.f1) && r.f7.all (fun n => decide (0 ≤ n) && decide (n ≤ (r.f5.length : Int))) &&
  ids r.f8 r.f1 && ids r.f9 r.f1 && log r.f10 && decide (-1 ≤ r.f11) && decide (r.f11 < maxTime) && decide (0 ≤ r.f12) && decide (r.f12 ≤ (r.f10.length : Int))
def mayP (r : Rep) : Prop :=
  size r.f1 = true ∧ 0 ≤ r.f0 ∧ r.f0 < r.f1 ∧ below r.f2 = true ∧ below r.f3 = true ∧ r.f3 ≤ r.f2 ∧ 0 ≤ r.f4 ∧ r.f4 ≤ 2 ∧ (r.f4 = 0 → r.f3 = r.f2) ∧
  log r.f5 = true ∧ 0 ≤ r.f6 ∧ r.f6 ≤ (r.f5.length : Int) ∧ (r.f7.length : Int) = r.f1 ∧ (∀ n ∈ r.f7, 0 ≤ n ∧ n ≤ (r.f5.length : Int)) ∧
  ids r.f8 r.f1 = true ∧ ids r.f9 r.f1 = true ∧ log r.f10 = true ∧ -1 ≤ r.f11 ∧ r.f11 < maxTime ∧ 0 ≤ r.f12 ∧ r.f12 ≤ (r.f10.length : Int)
theorem may_iff (r : Rep) : may r = true ↔ mayP r := by
  unfold may mayP
  simp only [Bool.and_eq_true, decide_eq_true_eq, Bool.not_eq_true', Bool.and_eq_false_iff, decide_eq_false_iff_not, List.all_eq_true, Classical.not_not, and_assoc]
  constructor
  · rintro ⟨a1, a2, a3, a4, a5, a6, a7, a8, a9, a10⟩
    exact ⟨a1, a2, a3, a4, a5, a6, a7, a8, fun h => a9.elim (fun h' => absurd h h') id, a10⟩
  · rintro ⟨a1, a2, a3, a4, a5, a6, a7, a8, a9, a10⟩
    refine ⟨a1, a2, a3, a4, a5, a6, a7, a8, ?_, a10⟩
    by_cases h : r.f4 = 0
    · exact .inr (a9 h)
    · exact .inl h
theorem may_false (r : Rep) (h : mayP r → False) : may r = false := by
  cases e : may r
  · rfl
  · exact (h ((may_iff r).1 e)).elim
/-! ### what is sent -/
/-- A message to all others: from i on. -/
def allFrom (id n view : Int) (m : Msg) : Nat → Int → List Msg
  | 0, _ => []
  | k + 1, i => if i < n then (if i = id then allFrom id n view m k (i + 1) else { m with f1 := id, f2 := i, f3 := view } :: allFrom id n view m k (i + 1)) else []
def toAll (r : Rep) (m : Msg) : List Msg := allFrom r.f0 r.f1 r.f2 m r.f1.toNat 0
def toOne (r : Rep) (to : Int) (m : Msg) : Msg := { m with f1 := r.f0, f2 := to, f3 := r.f2 }
def m0 : Msg := ⟨0, 0, 0, 0, 0, 0, 0, []⟩
/-! ### how it turns -/
def clear (r : Rep) : Rep := { r with f8 := [], f9 := [], f10 := [], f11 := -1, f12 := 0 }
def acked (r : Rep) : Rep := { r with f7 := (List.replicate r.f1.toNat 0).set r.f0.toNat (r.f5.length : Int) }
def raise (r : Rep) (n : Int) : Rep := { r with f6 := max r.f6 (min n (r.f5.length : Int)) }
def normal (r : Rep) (view : Int) (l : List Entry) (commit : Int) : Rep :=
  acked { clear r with f2 := view, f3 := view, f4 := 0, f5 := l, f6 := if r.f1 = 1 then (l.length : Int) else min (max r.f6 commit) (l.length : Int) }
def change (r : Rep) (view : Int) : Rep := { clear r with f2 := view, f4 := 1, f8 := [r.f0] }
def lastTime (l : List Entry) : Int := match l.getLast? with | some e => e.f0 | none => 0
def nextTime (l : List Entry) (time : Int) : Int := if l.length = 0 then max time 1 else max (max time 1) (lastTime l + 1)
/-- An entry more. -/
def proposed (r : Rep) (e : Entry) : Rep := { r with f5 := r.f5 ++ [e], f7 := r.f7.set r.f0.toNat ((r.f5.length : Int) + 1), f6 := if r.f1 = 1 then (r.f5.length : Int) + 1 else r.f6 }
def propose (r : Rep) (time : Int) (data : ByteArray) : Rep × List Msg × Int × Int :=
  if may r && below time && decide (data.size ≤ 20000) then
    if r.f4 = 0 ∧ r.f2 % r.f1 = r.f0 then
      if r.f5.length = 1000 ∨ maxTime ≤ nextTime r.f5 time then (r, [], 0, 4)
      else
        let s := proposed r ⟨nextTime r.f5 time, data⟩
        (s, toAll s ⟨1, 0, 0, 0, (r.f5.length : Int) + 1, s.f6, 0, [⟨nextTime r.f5 time, data⟩]⟩, (r.f5.length : Int) + 1, 0)
    else (r, [], 0, 17)
  else (r, [], 0, 1)
end Go.Proofs.YtggbjokhniigkaaGreat.Ty
