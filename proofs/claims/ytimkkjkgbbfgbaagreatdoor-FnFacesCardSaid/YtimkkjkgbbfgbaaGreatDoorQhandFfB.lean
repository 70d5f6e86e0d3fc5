/- The law on faces: plain lemmas; the statements of its text. -/
import Derived.Test.YtimkkjkgbbfgbaaGreatDoorQhandLawF0
namespace Go.Proofs.YtimkkjkgbbfgbaaGreatDoor.Q
open Go.RowKit Go.Proofs.YtimkkjkgbbfgbaaGreatDoorW.PrintWords Go.Proofs.YtimkkjkgbbfgbaaGreatDoorW.PrintLast Go.Proofs.YtimkkjkgbbfgbaaGreatDoorW.PrintMore
open Go.Proofs.YtimkkjkgbbfgbaaGreatDoor.Pure
set_option linter.unusedVariables false
set_option linter.unusedSimpArgs false

theorem withR_fit {ws : List Int} (hx : ws.length = 26) {sp gp : Int} {l : List S33} {p : S33} {rv : List Int} {rs rg : Int} {rl : List S33} {code : Int} (h : withR ws sp gp l p = ((rv, rs, rg, rl), code)) : rl.length ≤ 12 := by
  unfold withR at h
  have key : ∀ (r : Face) (c : Int), (r, c) = ((rv, rs, rg, rl), code) → r.2.2.2.length ≤ 12 → rl.length ≤ 12 := fun r c e he => by
    have := (Prod.mk.inj e).1
    subst this
    exact he
  split at h
  · split at h
    · split at h
      · split at h
        · exact key _ _ h (by show (putP p l).length ≤ 12; omega)
        · exact key _ _ h (by decide)
      · exact key _ _ h (by decide)
    · exact key _ _ h (by decide)
  · exact key _ _ h (by decide)
theorem said_empty (wl : List ByteArray) (h : ∀ x ∈ wl, saidB x) (T : ByteArray) (hT : T = joinB wl blank) : ((wl.length : Int) == 0) = T.toList.isEmpty := by
  subst hT
  cases wl with
  | nil => rw [joinB_nil, ByteArray.toList_eq]; rfl
  | cons x r =>
    have h1 := (join_inv ((x :: r).map (·.data.toList)) (fun y hy => by obtain ⟨z, hz, rfl⟩ := List.mem_map.1 hy; exact said_good (h z hz))).2 (by simp)
    have h2 : (joinB (x :: r) blank).toList = Lib.join ((x :: r).map (·.data.toList)) [32] := by rw [ByteArray.toList_eq]; rfl
    rw [h2]
    have e1 : (((x :: r).length : Int) == 0) = false := beq_eq_false_iff_ne.2 (by rw [List.length_cons]; omega)
    rw [e1]
    cases hq : Lib.join ((x :: r).map (·.data.toList)) [32] with
    | nil => exact absurd hq h1
    | cons a b => rfl
/-- What the law keeps to its end: the face, the pair, the list of words. -/
structure LI (w : World) (U : TypeId) (af : Nat) (ws : List Int) (sp gp : Int) (l : List S33) (Bf : Option Addr) (df ap : Nat) (pa pb pc : Int) (wl : List ByteArray) (As : Option Addr) (W : World) : Prop where
  b : Below w.heap.size w W
  f : BX U af ws sp gp l Bf df W
  p : W.heap[ap]? = some (.cells #[.int .u8 pa, .int .u8 pb, .int .i8 pc] 33 (0, 0))
  s : Kd.C Kd.string W As wl.length wl
theorem LI.below {w : World} {U : TypeId} {af : Nat} {ws : List Int} {sp gp : Int} {l : List S33} {Bf : Option Addr} {df ap : Nat} {pa pb pc : Int} {wl : List ByteArray} {As : Option Addr} {W W' : World} (h : LI w U af ws sp gp l Bf df ap pa pb pc wl As W) (hb : Below W.heap.size W W') : LI w U af ws sp gp l Bf df ap pa pb pc wl As W' :=
  ⟨below_step h.b hb, h.f.below hb, box_below h.p hb, Kd.C_below h.s hb⟩
theorem put_codes {ws : List Int} {sp gp : Int} {l : List S33} {pa pb pc : Int} {rv : List Int} {rs rg : Int} {rl : List S33} {code : Int} (hv : validB ws sp gp l = true) (ha : 65 ≤ pa ∧ pa ≤ 69) (hb : 65 ≤ pb ∧ pb ≤ 69) (hc : -4 ≤ pc ∧ pc ≤ 4) (h : withR ws sp gp l ⟨pa, pb, pc⟩ = ((rv, rs, rg, rl), code)) :
    (code = 0 ∧ rv = ws ∧ rs = sp ∧ rg = gp ∧ validB ws sp gp rl = true ∧ byL pa pb rl = pc ∧ ∀ a b, ¬ (a = pa ∧ b = pb) → byL a b rl = byL a b l) ∨ code = 3 ∨ (code = 4 ∧ gp + pc < 0) := by
  have h1 := withR_codes (p := ⟨pa, pb, pc⟩) hv (by unfold letB; rw [decide_eq_true (show 65 ≤ pa by omega), decide_eq_true (show pa ≤ 90 by omega)]; rfl) (by unfold letB; rw [decide_eq_true (show 65 ≤ pb by omega), decide_eq_true (show pb ≤ 90 by omega)]; rfl) (by show -10 ≤ pc ∧ pc ≤ 10; omega)
  rw [h] at h1
  rcases h1 with h1 | h1 | h1
  · have h2 : code = 0 := h1
    subst h2
    obtain ⟨e1, e2, e3, e4⟩ := withR_zero h
    obtain ⟨e5, _⟩ := withR_ok h
    have e6 : rl = putP ⟨pa, pb, pc⟩ l := (Prod.mk.inj (Prod.mk.inj (Prod.mk.inj e5).2).2).2
    refine Or.inl ⟨rfl, e1, e2, e3, e4, ?_, fun a b hn => ?_⟩
    · rw [e6]; exact byL_put ⟨pa, pb, pc⟩ l
    · rw [e6]; exact byL_other ⟨pa, pb, pc⟩ l a b hn
  · exact Or.inr (Or.inl h1)
  · exact Or.inr (Or.inr h1)
theorem loosen_len {ws : List Int} (hx : ws.length = 26) {sp gp : Int} {l : List S33} {n : Int} {rv : List Int} {rs rg : Int} {rl : List S33} {code : Int} (h : loosenR ws sp gp l n = ((rv, rs, rg, rl), code)) : rv.length = 26 := by
  unfold loosenR at h
  have key : ∀ (r : Face) (c : Int), (r, c) = ((rv, rs, rg, rl), code) → r.1.length = 26 → rv.length = 26 := fun r c e he => by
    have := (Prod.mk.inj e).1
    subst this
    exact he
  split at h
  · split at h
    · split at h
      · exact key _ _ h hx
      · exact key _ _ h rfl
    · exact key _ _ h rfl
  · exact key _ _ h rfl
theorem loosen_fit {ws : List Int} {sp gp : Int} {l : List S33} (hl : l.length ≤ 12) {n : Int} {rv : List Int} {rs rg : Int} {rl : List S33} {code : Int} (h : loosenR ws sp gp l n = ((rv, rs, rg, rl), code)) : rl.length ≤ 12 := by
  unfold loosenR at h
  have key : ∀ (r : Face) (c : Int), (r, c) = ((rv, rs, rg, rl), code) → r.2.2.2.length ≤ 12 → rl.length ≤ 12 := fun r c e he => by
    have := (Prod.mk.inj e).1
    subst this
    exact he
  split at h
  · split at h
    · split at h
      · exact key _ _ h hl
      · exact key _ _ h (by decide)
    · exact key _ _ h (by decide)
  · exact key _ _ h (by decide)
theorem loosen_two {ws : List Int} {sp gp : Int} {l : List S33} (hv : validB ws sp gp l = true) {n : Int} {r : Face} {code : Int} (h : loosenR ws sp gp l n = (r, code)) : code = 0 ∨ code = 4 := by
  have h1 := loosen_codes (n := n) hv
  rw [h] at h1
  exact h1
theorem loosen_valid {ws : List Int} {sp gp : Int} {l : List S33} {n : Int} {r : Face} (h : loosenR ws sp gp l n = (r, 0)) : validB ws sp gp l = true := by
  unfold loosenR at h
  split at h
  · assumption
  · exact absurd (Prod.mk.inj h).2 (by decide)
theorem loosen_facts {ws : List Int} {sp gp : Int} {l : List S33} (hv : validB ws sp gp l = true) {n : Int} {qv : List Int} {qs qg : Int} {ql : List S33} (h : loosenR ws sp gp l n = ((qv, qs, qg, ql), 0)) :
    ws = qv ∧ sp = qs ∧ l = ql ∧ qg = gp + n ∧ validB ws sp qg l = true ∧ loosenR ws sp qg l (-n) = ((ws, sp, gp, l), 0) := by
  obtain ⟨h1, h2⟩ := loosen_back hv h
  obtain ⟨e1, h1⟩ := Prod.mk.inj h1
  obtain ⟨e2, h1⟩ := Prod.mk.inj h1
  obtain ⟨e3, e4⟩ := Prod.mk.inj h1
  rw [← e3] at h2
  exact ⟨e1.symm, e2.symm, e4.symm, e3, loosen_valid h2, h2⟩
set_option maxHeartbeats 4000000 in
set_option maxRecDepth 100000 in
theorem facesA (A0 A1 : Option Addr) (c0 c1 : Nat) (gs hs : List Int) (w : World) (hr0 : Kd.C (Kd.int .u8) w A0 gs.length gs) (hc0 : gs.length ≤ c0) (hr1 : Kd.C (Kd.int .u8) w A1 hs.length hs) (hc1 : hs.length ≤ c1) (hlong : (decide ((gs.length : Int) > 3000) || decide ((hs.length : Int) > 3000)) = true) :
    Calls Tryz.prog 3 #[.slice A0 gs.length c0, .slice A1 hs.length c1] w fun e w' => e = .returned (.bool true) ∧ Below w.heap.size w w' := by
  have H := Lib.hid (longD A0 c0 gs A1 c1 hs true hlong w hr0 hc0 hr1 hc1)
  clear hlong hr0 hr1 hc0 hc1
  go_enter Tryz.func3, Tryz.ntmps3
  go_wp2_with (first
    | (go_at_call 4
       with_reducible refine H.out.mono ?_
       rintro e w1 ⟨rfl, hb⟩
       have B1 := Lib.hid hb
       clear hb))
  go_ret
  exact ⟨rfl, B1.out⟩
/-- A statement of the law's text, found by its first region; all that follows it, too. -/
def regionIn (n : Nat) : Code → Option Code
  | .region k ops d => if k = n then some (.region k ops d) else none
  | .seq a b => match regionIn n a with
    | some c => some c
    | none => regionIn n b
  | .block _ c => regionIn n c
  | .cond _ a b => match regionIn n a with
    | some c => some c
    | none => regionIn n b
  | .loop c => regionIn n c
  | _ => none
def condIn (n : Nat) : Code → Option Code
  | .cond (.tmp k) a b => if k = n then some (.cond (.tmp k) a b) else match condIn n a with
    | some c => some c
    | none => condIn n b
  | .seq a b => match condIn n a with
    | some c => some c
    | none => condIn n b
  | .block _ c => condIn n c
  | .loop c => condIn n c
  | _ => none
def isRegion (n : Nat) : Code → Bool
  | .region k _ _ => k == n
  | .seq a _ => isRegion n a
  | _ => false
def tailFrom (n : Nat) : Code → Option Code
  | .seq a b => if isRegion n a then some (.seq a b) else match tailFrom n b with
    | some c => some c
    | none => tailFrom n a
  | _ => none
abbrev PT (a : Nat) : Value := .pointer (some ⟨a, 0, none⟩)
end Go.Proofs.YtimkkjkgbbfgbaaGreatDoor.Q
