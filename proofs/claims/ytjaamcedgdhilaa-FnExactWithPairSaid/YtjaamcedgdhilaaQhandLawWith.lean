/- The law WithPair holds, walked by hand. -/
import Derived.Test.YtjaamcedgdhilaaQhandSpecWith
import Derived.Test.YtjaamcedgdhilaaQhandWith
import Derived.Test.YtjaamcedgdhilaaQlawstoPair
import Derived.Test.YtjaamcedgdhilaaQhandLawKit
import Derived.Test.YtjaamcedgdhilaaQhandMarks
namespace Go.Proofs.Ytjaamcedgdhilaa.Q
open Go.RowKit Go.Proofs.YtjaamcedgdhilaaW.PrintWords Go.Proofs.YtjaamcedgdhilaaW.PrintLast Go.Proofs.YtjaamcedgdhilaaW.PrintMore
open Go.Proofs.Ytjaamcedgdhilaa.Pure
set_option linter.unusedVariables false
set_option linter.unusedSimpArgs false

theorem toFaceRM (ws : List Int) (hx : ws.length = 26) (sp gp : Int) (A : Option Addr) (c : Nat) (l : List S44) (m : List S46) (hm : m = l.map toPr) (w : World) (hr : Kd.C k44 w A l.length l) (hc : l.length ≤ c) (hl : l.length ≤ 1048576) :
    Calls Try.prog 10 #[.agg (FV ws sp gp (.slice A l.length c))] w fun e w' => ∃ B d, e = .returned (.agg (FV ws sp gp (.slice B m.length d))) ∧ Kd.R k46 46 w' w.heap.size (fun _ => True) (.slice B m.length d) m ∧ Below w.heap.size w w' := by
  refine (toFaceC ws hx sp gp A c l w hr hc hl).mono ?_
  rintro e w' ⟨B, d, rfl, hR, hb⟩
  have hn : m.length = l.length := by rw [hm, List.length_map]
  rw [← hm] at hR
  rw [hn]
  exact ⟨B, d, rfl, hR, hb⟩
theorem specWithD (ws : List Int) (hx : ws.length = 26) (sp gp : Int) (A : Option Addr) (c : Nat) (l : List S46) (q : S44) (hq : -128 ≤ q.f2 ∧ q.f2 ≤ 127) (w : World) (hr : Kd.C k46 w A l.length l) (hc : l.length ≤ c) (hl : l.length ≤ 1048576) (hf : Fit ws sp gp l) (rw : List Int) (rs rg : Int) (rl : List S46) (code : Int) (h : withR ws sp gp l (toPr q) = ((rw, rs, rg, rl), code)) :
    Calls Try.prog 21 #[.agg (FV ws sp gp (.slice A l.length c)), .agg #[.int .u8 q.f0, .int .u8 q.f1, .int .i8 q.f2]] w fun e w' => ∃ B d, e = .returned (.tuple #[.agg (FV rw rs rg (.slice B rl.length d)), .int .i64 code]) ∧ Kd.R k46 46 w' w.heap.size (fun _ => True) (.slice B rl.length d) rl ∧ Below w.heap.size w w' :=
  specWithC ws hx sp gp A c l (toPr q) hq w hr hc hl hf (rw, rs, rg, rl) code h
theorem implWithD (ws : List Int) (hx : ws.length = 26) (sp gp : Int) (A : Option Addr) (c : Nat) (l : List S46) (q : S44) (hq : -128 ≤ q.f2 ∧ q.f2 ≤ 127) (w : World) (hr : Kd.C k46 w A l.length l) (hc : l.length ≤ c) (hl : l.length ≤ 1048576) (hf : Fit ws sp gp l) (rw : List Int) (rs rg : Int) (rl : List S46) (code : Int) (h : withR ws sp gp l (toPr q) = ((rw, rs, rg, rl), code)) :
    Calls Try.prog 23 #[.agg (FV ws sp gp (.slice A l.length c)), .agg #[.int .u8 q.f0, .int .u8 q.f1, .int .i8 q.f2]] w fun e w' => ∃ B d, e = .returned (.tuple #[.agg (FV rw rs rg (.slice B rl.length d)), .int .i64 code]) ∧ Kd.R k46 46 w' w.heap.size (fun _ => True) (.slice B rl.length d) rl ∧ Below w.heap.size w w' :=
  implWithC ws hx sp gp A c l (toPr q) hq w hr hc hl hf (rw, rs, rg, rl) code h
theorem toPairC (q : S44) (w : World) : Calls Try.prog 22 #[.agg #[.int .u8 q.f0, .int .u8 q.f1, .int .i8 q.f2]] w fun e w' => e = .returned (.agg #[.int .u8 q.f0, .int .u8 q.f1, .int .i8 q.f2]) ∧ Below w.heap.size w w' := laws_toPair.calls q.f0 q.f1 q.f2 q.f0 q.f1 q.f2 w rfl
theorem withR_len {ws : List Int} (hx : ws.length = 26) {sp gp : Int} {l : List S46} {p : S46} {r : Face} {code : Int} (h : withR ws sp gp l p = (r, code)) : r.1.length = 26 ∧ r.2.2.2.length ≤ 12 := by
  unfold withR at h
  split at h
  · split at h
    · split at h
      · split at h
        · obtain ⟨rfl, rfl⟩ := Prod.mk.inj h
          exact ⟨hx, by simp only; omega⟩
        · obtain ⟨rfl, rfl⟩ := Prod.mk.inj h
          exact ⟨rfl, Nat.zero_le _⟩
      · obtain ⟨rfl, rfl⟩ := Prod.mk.inj h
        exact ⟨rfl, Nat.zero_le _⟩
    · obtain ⟨rfl, rfl⟩ := Prod.mk.inj h
      exact ⟨rfl, Nat.zero_le _⟩
  · obtain ⟨rfl, rfl⟩ := Prod.mk.inj h
    exact ⟨rfl, Nat.zero_le _⟩
theorem markFaceR (ws : List Int) (hx : ws.length = 26) (sp gp : Int) (P0 : Nat → Prop) (A : Option Addr) (c : Nat) (l : List S46) (w0 w : World) (hB : Below w0.heap.size w0 w) (ho : Kd.R k46 46 w w0.heap.size P0 (.slice A l.length c) l) (hl : l.length ≤ 1048576) (k : Int) (hk : ((3 * l.length + 1 : Nat) : Int) = k) :
    Calls Try.prog 19 #[.agg (FV ws sp gp (.slice A l.length c)), .int .i64 1] w fun e w' => e = .returned (.int .i64 k) ∧ Kd.R k46 46 w' w0.heap.size P0 (.slice A l.length c) (marksP l.length) ∧ Below w0.heap.size w0 w' ∧ Kept w w' P0 := by
  subst hk
  exact markFaceC ws hx sp gp P0 A l.length c l w0 w hB ho hl
theorem heldFaceR (ws : List Int) (hx : ws.length = 26) (sp gp : Int) (A : Option Addr) (n c : Nat) (base : Nat) (ok : Nat → Prop) (w : World) (hr : Kd.R k46 46 w base ok (.slice A n c) (marksP n)) (hn : n ≤ 1048576) (k : Int) (hk : ((3 * n + 1 : Nat) : Int) = k) :
    Calls Try.prog 20 #[.agg (FV ws sp gp (.slice A n c)), .int .i64 1] w fun e w' => e = .returned (.int .i64 k) ∧ Below w.heap.size w w' := by
  subst hk
  have h := Kd.R_reads' hr
  rw [marksP_len] at h
  exact heldFaceC ws hx sp gp A n n c w h.2.2 h.2.1 hn


/-- What the law keeps: the arguments' blocks, three faces in blocks of their own, their rows in memory apart. -/
structure InvW (a pa f6 f8 f9 : Array Value) (ta U : TypeId) (b0 b1 I6 I8 I9 base : Nat) (okw okx okg : Nat → Prop) (Vw Vx Vg : Value) (lw lx lg : List S46) (W : World) : Prop where
  ox : ∀ k, okx k → k ≠ b0 ∧ k ≠ b1 ∧ k ≠ I6 ∧ k ≠ I8 ∧ k ≠ I9 ∧ ¬ okw k ∧ ¬ okg k
  og : ∀ k, okg k → k ≠ b0 ∧ k ≠ b1 ∧ k ≠ I6 ∧ k ≠ I8 ∧ k ≠ I9 ∧ ¬ okw k ∧ ¬ okx k
  k0 : W.heap[b0]? = some (.cells a ta (0, 0))
  k1 : W.heap[b1]? = some (.cells pa 44 (0, 0))
  k6 : W.heap[I6]? = some (.cells f6 U (0, 0))
  k8 : W.heap[I8]? = some (.cells f8 U (0, 0))
  k9 : W.heap[I9]? = some (.cells f9 U (0, 0))
  rw : Kd.R k46 46 W base okw Vw lw
  rx : Kd.R k46 46 W base okx Vx lx
  rg : Kd.R k46 46 W base okg Vg lg
section
variable {a pa f6 f8 f9 : Array Value} {ta U : TypeId} {b0 b1 I6 I8 I9 base : Nat} {okw okx okg : Nat → Prop} {Vw Vx Vg : Value} {lw lx lg : List S46} {W W' : World}
theorem InvW.below (h : InvW a pa f6 f8 f9 ta U b0 b1 I6 I8 I9 base okw okx okg Vw Vx Vg lw lx lg W) (hb : Below W.heap.size W W') : InvW a pa f6 f8 f9 ta U b0 b1 I6 I8 I9 base okw okx okg Vw Vx Vg lw lx lg W' :=
  ⟨h.ox, h.og, (hb.block _ (blk_lt h.k0)).trans h.k0, (hb.block _ (blk_lt h.k1)).trans h.k1, (hb.block _ (blk_lt h.k6)).trans h.k6, (hb.block _ (blk_lt h.k8)).trans h.k8, (hb.block _ (blk_lt h.k9)).trans h.k9, Kd.R_below h.rw hb, Kd.R_below h.rx hb, Kd.R_below h.rg hb⟩
theorem InvW.markX (h : InvW a pa f6 f8 f9 ta U b0 b1 I6 I8 I9 base okw okx okg Vw Vx Vg lw lx lg W) {lx' : List S46} (hk : Kept W W' okx) (hx : Kd.R k46 46 W' base okx Vx lx') : InvW a pa f6 f8 f9 ta U b0 b1 I6 I8 I9 base okw okx okg Vw Vx Vg lw lx' lg W' :=
  ⟨h.ox, h.og, (hk.2 _ (blk_lt h.k0) (fun e => (h.ox _ e).1 rfl)).trans h.k0, (hk.2 _ (blk_lt h.k1) (fun e => (h.ox _ e).2.1 rfl)).trans h.k1, (hk.2 _ (blk_lt h.k6) (fun e => (h.ox _ e).2.2.1 rfl)).trans h.k6, (hk.2 _ (blk_lt h.k8) (fun e => (h.ox _ e).2.2.2.1 rfl)).trans h.k8, (hk.2 _ (blk_lt h.k9) (fun e => (h.ox _ e).2.2.2.2.1 rfl)).trans h.k9,
    Kd.R_step h.rw (fun k ho hlt => hk.2 k hlt (fun e => (h.ox k e).2.2.2.2.2.1 ho)), hx, Kd.R_step h.rg (fun k ho hlt => hk.2 k hlt (fun e => (h.ox k e).2.2.2.2.2.2 ho))⟩
theorem InvW.markG (h : InvW a pa f6 f8 f9 ta U b0 b1 I6 I8 I9 base okw okx okg Vw Vx Vg lw lx lg W) {lg' : List S46} (hk : Kept W W' okg) (hg : Kd.R k46 46 W' base okg Vg lg') : InvW a pa f6 f8 f9 ta U b0 b1 I6 I8 I9 base okw okx okg Vw Vx Vg lw lx lg' W' :=
  ⟨h.ox, h.og, (hk.2 _ (blk_lt h.k0) (fun e => (h.og _ e).1 rfl)).trans h.k0, (hk.2 _ (blk_lt h.k1) (fun e => (h.og _ e).2.1 rfl)).trans h.k1, (hk.2 _ (blk_lt h.k6) (fun e => (h.og _ e).2.2.1 rfl)).trans h.k6, (hk.2 _ (blk_lt h.k8) (fun e => (h.og _ e).2.2.2.1 rfl)).trans h.k8, (hk.2 _ (blk_lt h.k9) (fun e => (h.og _ e).2.2.2.2.1 rfl)).trans h.k9,
    Kd.R_step h.rw (fun k ho hlt => hk.2 k hlt (fun e => (h.og k e).2.2.2.2.2.1 ho)), Kd.R_step h.rx (fun k ho hlt => hk.2 k hlt (fun e => (h.og k e).2.2.2.2.2.2 ho)), hg⟩
end
theorem pair_at {w w' : World} {g : Nat} {q : S44} {t : TypeId} (h : w.heap[g]? = some (.cells #[.int .u8 q.f0, .int .u8 q.f1, .int .i8 q.f2] t (0, 0))) (hb : Below w.heap.size w w') : w'.cell? ⟨g, 0, none⟩ = some (.int .u8 q.f0) ∧ w'.cell? ⟨g, 1, none⟩ = some (.int .u8 q.f1) ∧ w'.cell? ⟨g, 2, none⟩ = some (.int .i8 q.f2) := by
  have h2 := (hb.block _ (blk_lt h)).trans h
  exact ⟨(blk_cell h2 0).trans rfl, (blk_cell h2 1).trans rfl, (blk_cell h2 2).trans rfl⟩

set_option maxHeartbeats 8000000 in
set_option maxRecDepth 100000 in
theorem lawWithA (ws : List Int) (hx : ws.length = 26) (sp gp : Int) (A : Option Addr) (c : Nat) (l : List S44) (q : S44) (w : World) (hr : Kd.C k44 w A l.length l) (hc : l.length ≤ c) (hl : l.length ≤ 9223372036854775807) (hbig : 1048576 < (l.length : Int)) :
    Calls Try.prog 7 #[.agg (FV ws sp gp (.slice A l.length c)), .agg #[.int .u8 q.f0, .int .u8 q.f1, .int .i8 q.f2]] w fun e w' => e = .returned (.bool true) ∧ Below w.heap.size w w' := by
  have HV1 := Lib.hid (show (if (1048576 : Int) - (l.length : Int) < 0 then -1 else (1048576 : Int) - (l.length : Int)) = -1 from if_pos (by omega))
  clear hbig
  go_enter Try.func7, Try.ntmps7
  obtain ⟨M, hM⟩ : ∃ M : Nat, M = 29 := ⟨_, rfl⟩
  obtain ⟨S, hS⟩ : ∃ S : TypeId, S = 26 := ⟨_, rfl⟩
  obtain ⟨U, hU⟩ : ∃ U : TypeId, U = 31 := ⟨_, rfl⟩
  have hzS : ∀ w, (sizeOf S).run Try.prog w = .ok M w := fun w => by rw [hM, hS]; exact Try.sizeOf26 w
  have haS : ∀ w, (isAgg S).run Try.prog w = .ok true w := fun w => by rw [hS]; exact Try.isAgg26 w
  have hzU : ∀ w, (sizeOf U).run Try.prog w = .ok M w := fun w => by rw [hM, hU]; exact Try.sizeOf31 w
  have haU : ∀ w, (isAgg U).run Try.prog w = .ok true w := fun w => by rw [hU]; exact Try.isAgg31 w
  have hvU : ∀ w, (zeroValue U).run Try.prog w = .ok (.agg ZF) w := fun w => by rw [hU]; exact Try.zeroValue31 w
  have e1 : ∀ x, Op.load 26 x = Op.load S x := fun x => by rw [hS]
  have e2 : ∀ x, Op.load 31 x = Op.load U x := fun x => by rw [hU]
  have e3 : ∀ x y, Op.store 31 x y = Op.store U x y := fun x y => by rw [hU]
  have e4 : Op.alloc 31 = Op.alloc U := by rw [hU]
  simp only [e1, e2, e3, e4]
  clear e1 e2 e3 e4
  have HM := Lib.hid hM
  have HX := Lib.hid hx
  have HR := Lib.hid hr
  have HC := Lib.hid hc
  have HL := Lib.hid hl
  have hFa : ∀ v, (FV ws sp gp v).size = M := fun v => by rw [FV_size ws hx, hM]
  clear hM hS hU hx hr hc hl
  have H2 := Lib.hid (two_blocks w (.cells (FV ws sp gp (.slice A l.length c)) 26) (.cells #[.int .u8 q.f0, .int .u8 q.f1, .int .i8 q.f2] 44))
  have HB := Lib.hid (below_alloc (below_alloc (Below.refl w.heap.size w) (.cells (FV ws sp gp (.slice A l.length c)) 26)) (.cells #[.int .u8 q.f0, .int .u8 q.f1, .int .i8 q.f2] 44))
  have HS2 := Lib.hid (show ((w.alloc (.cells (FV ws sp gp (.slice A l.length c)) 26)).alloc (.cells #[.int .u8 q.f0, .int .u8 q.f1, .int .i8 q.f2] 44)).heap.size = w.heap.size + 2 by simp)
  have q0 := loadF H2.out.1 HX.out HM.out
  go_wp2_with (first
    | (go_at_call 8
       with_reducible refine (szFaceR ws HX.out sp gp A c l 1048576 (by decide) (by decide) _ (Kd.C_below HR.out HB.out) HC.out HL.out (-1) HV1.out).mono ?_
       rintro e w1 ⟨rfl, hb⟩
       have B1 := Lib.hid (below_step HB.out hb)
       have S1 := Lib.hid (show w.heap.size + 2 ≤ w1.heap.size from HS2.out ▸ hb.size)
       have K0 := Lib.hid ((hb.block w.heap.size (by rw [HS2.out]; omega)).trans H2.out.1)
       have KP := Lib.hid ((hb.block (w.heap.size + 1) (by rw [HS2.out]; omega)).trans H2.out.2)
       clear hb q0))
  go_ret
  exact ⟨rfl, B1.out⟩

set_option maxHeartbeats 8000000 in
set_option maxRecDepth 100000 in
theorem lawWithC (ws : List Int) (hx : ws.length = 26) (sp gp : Int) (A : Option Addr) (c : Nat) (l : List S44) (q : S44) (w : World) (hr : Kd.C k44 w A l.length l) (hc : l.length ≤ c) (hl : l.length ≤ 9223372036854775807) (hsm : (l.length : Int) ≤ 1048576) (hfit : Fit ws sp gp (l.map toPr)) (hq : -128 ≤ q.f2 ∧ q.f2 ≤ 127) :
    Calls Try.prog 7 #[.agg (FV ws sp gp (.slice A l.length c)), .agg #[.int .u8 q.f0, .int .u8 q.f1, .int .i8 q.f2]] w fun e w' => e = .returned (.bool true) ∧ Below w.heap.size w w' := by
  obtain ⟨r1, e1⟩ : ∃ r1 : Int, r1 = 1048576 - (l.length : Int) := ⟨_, rfl⟩
  have HV1 := Lib.hid (show (if (1048576 : Int) - (l.length : Int) < 0 then -1 else (1048576 : Int) - (l.length : Int)) = r1 by rw [if_neg (by omega), e1])
  have hr2 : ¬ r1 < 0 := by omega
  obtain ⟨m, hm⟩ : ∃ m, m = l.map toPr := ⟨_, rfl⟩
  rw [← hm] at hfit
  have HP := Lib.hid hm
  have HN1 := Lib.hid (show l.length ≤ 1048576 by omega)
  have HN3 := Lib.hid (show m.length ≤ 1048576 by rw [hm, List.length_map]; omega)
  have HFT := Lib.hid hfit
  obtain ⟨rw, rs, rg, rl, code, hb⟩ : ∃ rw rs rg rl code, withR ws sp gp m (toPr q) = ((rw, rs, rg, rl), code) := ⟨_, _, _, _, _, rfl⟩
  have HLR := Lib.hid hb
  have HRX := Lib.hid (show rw.length = 26 from (withR_len hx hb).1)
  have HRL := Lib.hid (show rl.length ≤ 1048576 by have h1 : rl.length ≤ 12 := (withR_len hx hb).2; omega)
  have HQ := Lib.hid hq
  clear hb hq
  have tb : (code != code) = false := by simp
  obtain ⟨kx, hkx⟩ : ∃ kx : Int, ((3 * m.length + 1 : Nat) : Int) = kx := ⟨_, rfl⟩
  obtain ⟨kg, hkg⟩ : ∃ kg : Int, ((3 * rl.length + 1 : Nat) : Int) = kg := ⟨_, rfl⟩
  have tx : ¬ kx < 0 := by omega
  have tg : ¬ kg < 0 := by omega
  have tk : (kg != kg) = false := by simp
  have HKX := Lib.hid hkx
  have HKG := Lib.hid hkg
  clear hkx hkg
  clear hsm e1 hm hfit
  go_enter Try.func7, Try.ntmps7
  obtain ⟨M, hM⟩ : ∃ M : Nat, M = 29 := ⟨_, rfl⟩
  obtain ⟨S, hS⟩ : ∃ S : TypeId, S = 26 := ⟨_, rfl⟩
  obtain ⟨U, hU⟩ : ∃ U : TypeId, U = 31 := ⟨_, rfl⟩
  have hzS : ∀ w, (sizeOf S).run Try.prog w = .ok M w := fun w => by rw [hM, hS]; exact Try.sizeOf26 w
  have haS : ∀ w, (isAgg S).run Try.prog w = .ok true w := fun w => by rw [hS]; exact Try.isAgg26 w
  have hzU : ∀ w, (sizeOf U).run Try.prog w = .ok M w := fun w => by rw [hM, hU]; exact Try.sizeOf31 w
  have haU : ∀ w, (isAgg U).run Try.prog w = .ok true w := fun w => by rw [hU]; exact Try.isAgg31 w
  have hvU : ∀ w, (zeroValue U).run Try.prog w = .ok (.agg ZF) w := fun w => by rw [hU]; exact Try.zeroValue31 w
  have e1 : ∀ x, Op.load 26 x = Op.load S x := fun x => by rw [hS]
  have e2 : ∀ x, Op.load 31 x = Op.load U x := fun x => by rw [hU]
  have e3 : ∀ x y, Op.store 31 x y = Op.store U x y := fun x y => by rw [hU]
  have e4 : Op.alloc 31 = Op.alloc U := by rw [hU]
  simp only [e1, e2, e3, e4]
  clear e1 e2 e3 e4
  have HM := Lib.hid hM
  have HX := Lib.hid hx
  have HR := Lib.hid hr
  have HC := Lib.hid hc
  have HL := Lib.hid hl
  have hFa : ∀ v, (FV ws sp gp v).size = M := fun v => by rw [FV_size ws hx, hM]
  have hFr : ∀ v, (FV rw rs rg v).size = M := fun v => by rw [FV_size rw HRX.out, hM]
  clear hM hS hU hx hr hc hl
  have H2 := Lib.hid (two_blocks w (.cells (FV ws sp gp (.slice A l.length c)) 26) (.cells #[.int .u8 q.f0, .int .u8 q.f1, .int .i8 q.f2] 44))
  have HB := Lib.hid (below_alloc (below_alloc (Below.refl w.heap.size w) (.cells (FV ws sp gp (.slice A l.length c)) 26)) (.cells #[.int .u8 q.f0, .int .u8 q.f1, .int .i8 q.f2] 44))
  have HS2 := Lib.hid (show ((w.alloc (.cells (FV ws sp gp (.slice A l.length c)) 26)).alloc (.cells #[.int .u8 q.f0, .int .u8 q.f1, .int .i8 q.f2] 44)).heap.size = w.heap.size + 2 by simp)
  have q0 := loadF H2.out.1 HX.out HM.out
  go_wp2_with (first
    | (go_at_call 8
       with_reducible refine (szFaceR ws HX.out sp gp A c l 1048576 (by decide) (by decide) _ (Kd.C_below HR.out HB.out) HC.out HL.out r1 HV1.out).mono ?_
       rintro e w1 ⟨rfl, hb⟩
       have B1 := Lib.hid (below_step HB.out hb)
       have S1 := Lib.hid (show w.heap.size + 2 ≤ w1.heap.size from HS2.out ▸ hb.size)
       have K0 := Lib.hid ((hb.block w.heap.size (by rw [HS2.out]; omega)).trans H2.out.1)
       have KP := Lib.hid ((hb.block (w.heap.size + 1) (by rw [HS2.out]; omega)).trans H2.out.2)
       clear hb q0))
  refine start_ (n := 11) (S := fun w' => Below w1.drew.heap.size w1.drew w') (ds := []) #[false, false, false, false, false, false, false, false, false, false, false] (by kernel_rfl) rfl rfl (Below.refl _ _) (fun hHeld => ?_)
  have BQ := Lib.hid (below_drew1 B1.out)
  have Q0 := Lib.hid (show w1.drew.heap[w.heap.size]? = some (.cells (FV ws sp gp (.slice A l.length c)) 26 (0, 0)) from K0.out)
  have QP := Lib.hid (show w1.drew.heap[w.heap.size + 1]? = some (.cells #[.int .u8 q.f0, .int .u8 q.f1, .int .i8 q.f2] 44 (0, 0)) from KP.out)
  have SQ := Lib.hid (show w.heap.size + 2 ≤ w1.drew.heap.size from S1.out)
  clear K0 KP S1 B1
  generalize w1.drew = wq at BQ Q0 QP SQ hHeld ⊢
  refine take_ (i := 0) (N := some 22) (v := ?_) (a' := ?_) #[true, false, false, false, false, false, false, false, false, false, false] rfl rfl (by kernel_rfl) (fun _ _ _ h => h) (Or.inl ⟨by rfl, ?_⟩) hHeld ?_ ?_
  rotate_left
  · rintro w' s
    have q := loadF ((s.block _ (blk_lt Q0.out)).trans Q0.out) HX.out HM.out
    go_simp
    with_reducible rfl
  rotate_left
  · simp only [Act.put, List.setIfInBounds_toArray, List.set_cons_zero, List.set_cons_succ, i64_w, i32_w]
    rfl
  refine take_ (i := 2) (N := some 24) (v := ?_) (a' := ?_) #[true, false, true, false, false, false, false, false, false, false, false] rfl rfl (by kernel_rfl) (fun _ _ _ h => h) (Or.inl ⟨by rfl, ?_⟩) hHeld ?_ ?_
  rotate_left
  · rintro w' s
    obtain ⟨q0, q1, q2⟩ := pair_at QP.out s
    go_simp
    with_reducible rfl
  rotate_left
  · simp only [Act.put, List.setIfInBounds_toArray, List.set_cons_zero, List.set_cons_succ, i64_w, i32_w]
    rfl
  refine join_ (σ := Value × Nat × Option Addr × Nat) 2 #[true, true, true, true, true, true, true, true, true, false, false] (fun s_ => [(23, s_.1), (25, .agg #[.int .u8 q.f0, .int .u8 q.f1, .int .i8 q.f2]), (26, .tuple #[.agg (FV rw rs rg (.slice s_.2.2.1 rl.length s_.2.2.2)), .int .i64 code]), (21, .tuple #[.agg (FV rw rs rg (.slice s_.2.2.1 rl.length s_.2.2.2)), .int .i64 code]), (27, .agg (FV rw rs rg (.slice s_.2.2.1 rl.length s_.2.2.2))), (28, .int .i64 code), (6, .pointer (some ⟨s_.2.1, 0, none⟩))]) (fun s_ w' => Below wq.heap.size wq w' ∧ wq.heap.size ≤ s_.2.1 ∧ w'.heap[s_.2.1]? = some (.cells ZF U (0, 0)) ∧ Kd.R k46 46 w' w.heap.size (fun k => wq.heap.size ≤ k ∧ k ≠ s_.2.1) (.slice s_.2.2.1 rl.length s_.2.2.2) rl) ?_ ?_
  rotate_left
  · intro hCont
    refine two_ (i := 1) (j := 8) (Ni := some 23) (Nj := some 6) #[true, true, true, false, false, false, false, false, false, false, false] #[true, false, true, false, false, false, false, false, true, false, false] rfl rfl rfl rfl (by kernel_rfl) (by decide) (by decide) (fun K hK => ?_) (fun K hK => ?_)
    · skip
      refine goes_ Try.func10 (by kernel_rfl) rfl #[.agg (FV ws sp gp (.slice A l.length c))] (by rfl) rfl rfl (by (try simp only [List.map_toArray, List.map_cons, List.map_nil]); first | done | rfl) ?_
      with_reducible refine (toFaceM ws HX.out sp gp A c l m HP.out _ (Kd.C_below HR.out (below_step BQ.out hHeld)) HC.out HN1.out).mono ?_
      rintro e u1 ⟨A2, c2, rfl, hC, hc, hb⟩
      refine ⟨_, rfl, ?_⟩
      have G2 := Lib.hid hC
      have D2 := Lib.hid hc
      clear hC hc
      have hS_ := below_step hHeld hb
      clear hb hHeld
      refine hK.out _ _ hS_ (fun hHeld => ?_)
      clear hK K hS_
      refine norm_ (a' := ?_) ?_ ?_
      rotate_left
      · show Act.put _ (some 23) _ = _
        simp only [Act.put, List.setIfInBounds_toArray, List.set_cons_zero, List.set_cons_succ, i64_w, i32_w]
        rfl
      refine two_ (i := 3) (j := 8) (Ni := some 25) (Nj := some 6) #[true, true, true, true, false, false, false, false, false, false, false] #[true, true, true, false, false, false, false, false, true, false, false] rfl rfl rfl rfl (by kernel_rfl) (by decide) (by decide) (fun K hK => ?_) (fun K hK => ?_)
      · skip
        refine goes_ Try.func22 (by kernel_rfl) rfl #[.agg #[.int .u8 q.f0, .int .u8 q.f1, .int .i8 q.f2]] (by rfl) rfl rfl (by (try simp only [List.map_toArray, List.map_cons, List.map_nil]); first | done | rfl) ?_
        with_reducible refine (toPairC q _).mono ?_
        rintro e u2 ⟨rfl, hb⟩
        refine ⟨_, rfl, ?_⟩
        have G2 := Lib.hid (Kd.C_below G2.out hb)
        have hS_ := below_step hHeld hb
        clear hb hHeld
        refine hK.out _ _ hS_ (fun hHeld => ?_)
        clear hK K hS_
        refine norm_ (a' := ?_) ?_ ?_
        rotate_left
        · show Act.put _ (some 25) _ = _
          simp only [Act.put, List.setIfInBounds_toArray, List.set_cons_zero, List.set_cons_succ, i64_w, i32_w]
          rfl
        refine two_ (i := 4) (j := 8) (Ni := some 26) (Nj := some 6) #[true, true, true, true, true, false, false, false, false, false, false] #[true, true, true, true, false, false, false, false, true, false, false] rfl rfl rfl rfl (by kernel_rfl) (by decide) (by decide) (fun K hK => ?_) (fun K hK => ?_)
        · skip
          refine goes_ Try.func21 (by kernel_rfl) rfl #[.agg (FV ws sp gp (.slice A2 m.length c2)), .agg #[.int .u8 q.f0, .int .u8 q.f1, .int .i8 q.f2]] (by rfl) rfl rfl (by (try simp only [List.map_toArray, List.map_cons, List.map_nil]); first | done | rfl) ?_
          with_reducible refine (specWithD ws HX.out sp gp A2 c2 m q HQ.out _ G2.out D2.out HN3.out HFT.out rw rs rg rl code HLR.out).mono ?_
          rintro e u3 ⟨Bw, dw, rfl, hR, hb⟩
          refine ⟨_, rfl, ?_⟩
          have G2 := Lib.hid (Kd.C_below G2.out hb)
          have R3 := Lib.hid (Kd.R_lower (Kd.R_mono (Kd.R_bound hR) (fun k hk => show wq.heap.size ≤ k ∧ k < u3.heap.size from ⟨by have h1 := hk.2.1; have h2 := hHeld.size; omega, hk.2.2.1⟩)) (show w.heap.size ≤ u2.heap.size by have h1 := hHeld.size; have h2 := SQ.out; omega))
          clear hR
          have hS_ := below_step hHeld hb
          clear hb hHeld
          refine hK.out _ _ hS_ (fun hHeld => ?_)
          clear hK K hS_
          refine norm_ (a' := ?_) ?_ ?_
          rotate_left
          · show Act.put _ (some 26) _ = _
            simp only [Act.put, List.setIfInBounds_toArray, List.set_cons_zero, List.set_cons_succ, i64_w, i32_w]
            rfl
          refine pure_ (i := 5) (N := some 21) (v := ?_) (a' := ?_) #[true, true, true, true, true, true, false, false, false, false, false] rfl rfl (by kernel_rfl) (fun _ _ _ h => h) (Or.inl ⟨by rfl, ?_⟩) ?_ ?_
          rotate_left
          · intro w'
            go_simp
            with_reducible rfl
          rotate_left
          · simp only [Act.put, List.setIfInBounds_toArray, List.set_cons_zero, List.set_cons_succ, i64_w, i32_w]
            rfl
          refine pure_ (i := 6) (N := some 27) (v := ?_) (a' := ?_) #[true, true, true, true, true, true, true, false, false, false, false] rfl rfl (by kernel_rfl) (fun _ _ _ h => h) (Or.inl ⟨by rfl, ?_⟩) ?_ ?_
          rotate_left
          · intro w'
            go_simp
            with_reducible rfl
          rotate_left
          · simp only [Act.put, List.setIfInBounds_toArray, List.set_cons_zero, List.set_cons_succ, i64_w, i32_w]
            rfl
          refine pure_ (i := 7) (N := some 28) (v := ?_) (a' := ?_) #[true, true, true, true, true, true, true, true, false, false, false] rfl rfl (by kernel_rfl) (fun _ _ _ h => h) (Or.inl ⟨by rfl, ?_⟩) ?_ ?_
          rotate_left
          · intro w'
            go_simp
            with_reducible rfl
          rotate_left
          · simp only [Act.put, List.setIfInBounds_toArray, List.set_cons_zero, List.set_cons_succ, i64_w, i32_w]
            rfl
          refine one_ (i := 8) (N := some 6) #[true, true, true, true, true, true, true, true, true, false, false] rfl rfl (by kernel_rfl) (by decide) (fun K hK => ?_)
          refine value_ (w1 := ?_) (v := ?_) (by rfl) rfl ?_ ?_
          rotate_left 2
          · go_simp
            constructor
            · rfl
            · rfl
          have hb := below_alloc (Below.refl u3.heap.size u3) (.cells ZF U)
          have G2 := Lib.hid (Kd.C_below G2.out hb)
          have R3 := Lib.hid (Kd.R_below R3.out hb)
          have R3 := Lib.hid (Kd.R_mono R3.out (fun k hk => show wq.heap.size ≤ k ∧ k ≠ u3.heap.size from ⟨hk.1, Nat.ne_of_lt hk.2⟩))
          have HG := Lib.hid (show wq.heap.size ≤ u3.heap.size from hHeld.size)
          have HGL := Lib.hid (show u3.heap.size < (u3.alloc (.cells ZF U)).heap.size by simp)
          have GA := Lib.hid (heap_alloc_new u3 (.cells ZF U))
          have hS_ := below_step hHeld hb
          clear hb hHeld
          refine hK.out _ _ hS_ (fun hHeld => ?_)
          clear hK K hS_
          refine norm_ (a' := ?_) ?_ ?_
          rotate_left
          · show Act.put _ (some 6) _ = _
            simp only [Act.put, List.setIfInBounds_toArray, List.set_cons_zero, List.set_cons_succ, i64_w, i32_w]
            rfl
          exact norm_ (by simp only [putAll, Act.put, List.setIfInBounds_toArray, List.set_cons_zero, List.set_cons_succ]) (hCont (.agg (FV ws sp gp (.slice A2 m.length c2)), u3.heap.size, _, _) _ ⟨hHeld, HG.out, GA.out, R3.out⟩)
        · skip
          refine value_ (w1 := ?_) (v := ?_) (by rfl) rfl ?_ ?_
          rotate_left 2
          · go_simp
            constructor
            · rfl
            · rfl
          have hb := below_alloc (Below.refl u2.heap.size u2) (.cells ZF U)
          have G2 := Lib.hid (Kd.C_below G2.out hb)
          have HG := Lib.hid (show wq.heap.size ≤ u2.heap.size from hHeld.size)
          have HGL := Lib.hid (show u2.heap.size < (u2.alloc (.cells ZF U)).heap.size by simp)
          have GA := Lib.hid (heap_alloc_new u2 (.cells ZF U))
          have hS_ := below_step hHeld hb
          clear hb hHeld
          refine hK.out _ _ hS_ (fun hHeld => ?_)
          clear hK K hS_
          refine norm_ (a' := ?_) ?_ ?_
          rotate_left
          · show Act.put _ (some 6) _ = _
            simp only [Act.put, List.setIfInBounds_toArray, List.set_cons_zero, List.set_cons_succ, i64_w, i32_w]
            rfl
          refine one_ (i := 4) (N := some 26) #[true, true, true, true, true, false, false, false, true, false, false] rfl rfl (by kernel_rfl) (by decide) (fun K hK => ?_)
          refine goes_ Try.func21 (by kernel_rfl) rfl #[.agg (FV ws sp gp (.slice A2 m.length c2)), .agg #[.int .u8 q.f0, .int .u8 q.f1, .int .i8 q.f2]] (by rfl) rfl rfl (by (try simp only [List.map_toArray, List.map_cons, List.map_nil]); first | done | rfl) ?_
          with_reducible refine (specWithD ws HX.out sp gp A2 c2 m q HQ.out _ G2.out D2.out HN3.out HFT.out rw rs rg rl code HLR.out).mono ?_
          rintro e u4 ⟨Bw, dw, rfl, hR, hb⟩
          refine ⟨_, rfl, ?_⟩
          have G2 := Lib.hid (Kd.C_below G2.out hb)
          have GA := Lib.hid ((hb.block _ (blk_lt GA.out)).trans GA.out)
          have R3 := Lib.hid (Kd.R_lower (Kd.R_mono (Kd.R_bound hR) (fun k hk => show wq.heap.size ≤ k ∧ k ≠ u2.heap.size from ⟨by have h1 := hk.2.1; have h2 := hHeld.size; omega, by have h1 := hk.2.1; have h2 := HGL.out; omega⟩)) (show w.heap.size ≤ (u2.alloc (.cells ZF U)).heap.size by have h1 := hHeld.size; have h2 := SQ.out; omega))
          clear hR
          have HGL := Lib.hid (Nat.lt_of_lt_of_le HGL.out hb.size)
          have hS_ := below_step hHeld hb
          clear hb hHeld
          refine hK.out _ _ hS_ (fun hHeld => ?_)
          clear hK K hS_
          refine norm_ (a' := ?_) ?_ ?_
          rotate_left
          · show Act.put _ (some 26) _ = _
            simp only [Act.put, List.setIfInBounds_toArray, List.set_cons_zero, List.set_cons_succ, i64_w, i32_w]
            rfl
          refine pure_ (i := 5) (N := some 21) (v := ?_) (a' := ?_) #[true, true, true, true, true, true, false, false, true, false, false] rfl rfl (by kernel_rfl) (fun _ _ _ h => h) (Or.inl ⟨by rfl, ?_⟩) ?_ ?_
          rotate_left
          · intro w'
            go_simp
            with_reducible rfl
          rotate_left
          · simp only [Act.put, List.setIfInBounds_toArray, List.set_cons_zero, List.set_cons_succ, i64_w, i32_w]
            rfl
          refine pure_ (i := 6) (N := some 27) (v := ?_) (a' := ?_) #[true, true, true, true, true, true, true, false, true, false, false] rfl rfl (by kernel_rfl) (fun _ _ _ h => h) (Or.inl ⟨by rfl, ?_⟩) ?_ ?_
          rotate_left
          · intro w'
            go_simp
            with_reducible rfl
          rotate_left
          · simp only [Act.put, List.setIfInBounds_toArray, List.set_cons_zero, List.set_cons_succ, i64_w, i32_w]
            rfl
          refine pure_ (i := 7) (N := some 28) (v := ?_) (a' := ?_) #[true, true, true, true, true, true, true, true, true, false, false] rfl rfl (by kernel_rfl) (fun _ _ _ h => h) (Or.inl ⟨by rfl, ?_⟩) ?_ ?_
          rotate_left
          · intro w'
            go_simp
            with_reducible rfl
          rotate_left
          · simp only [Act.put, List.setIfInBounds_toArray, List.set_cons_zero, List.set_cons_succ, i64_w, i32_w]
            rfl
          exact norm_ (by simp only [putAll, Act.put, List.setIfInBounds_toArray, List.set_cons_zero, List.set_cons_succ]) (hCont (.agg (FV ws sp gp (.slice A2 m.length c2)), u2.heap.size, _, _) _ ⟨hHeld, HG.out, GA.out, R3.out⟩)
      · skip
        refine value_ (w1 := ?_) (v := ?_) (by rfl) rfl ?_ ?_
        rotate_left 2
        · go_simp
          constructor
          · rfl
          · rfl
        have hb := below_alloc (Below.refl u1.heap.size u1) (.cells ZF U)
        have G2 := Lib.hid (Kd.C_below G2.out hb)
        have HG := Lib.hid (show wq.heap.size ≤ u1.heap.size from hHeld.size)
        have HGL := Lib.hid (show u1.heap.size < (u1.alloc (.cells ZF U)).heap.size by simp)
        have GA := Lib.hid (heap_alloc_new u1 (.cells ZF U))
        have hS_ := below_step hHeld hb
        clear hb hHeld
        refine hK.out _ _ hS_ (fun hHeld => ?_)
        clear hK K hS_
        refine norm_ (a' := ?_) ?_ ?_
        rotate_left
        · show Act.put _ (some 6) _ = _
          simp only [Act.put, List.setIfInBounds_toArray, List.set_cons_zero, List.set_cons_succ, i64_w, i32_w]
          rfl
        refine one_ (i := 3) (N := some 25) #[true, true, true, true, false, false, false, false, true, false, false] rfl rfl (by kernel_rfl) (by decide) (fun K hK => ?_)
        refine goes_ Try.func22 (by kernel_rfl) rfl #[.agg #[.int .u8 q.f0, .int .u8 q.f1, .int .i8 q.f2]] (by rfl) rfl rfl (by (try simp only [List.map_toArray, List.map_cons, List.map_nil]); first | done | rfl) ?_
        with_reducible refine (toPairC q _).mono ?_
        rintro e u5 ⟨rfl, hb⟩
        refine ⟨_, rfl, ?_⟩
        have G2 := Lib.hid (Kd.C_below G2.out hb)
        have GA := Lib.hid ((hb.block _ (blk_lt GA.out)).trans GA.out)
        have HGL := Lib.hid (Nat.lt_of_lt_of_le HGL.out hb.size)
        have hS_ := below_step hHeld hb
        clear hb hHeld
        refine hK.out _ _ hS_ (fun hHeld => ?_)
        clear hK K hS_
        refine norm_ (a' := ?_) ?_ ?_
        rotate_left
        · show Act.put _ (some 25) _ = _
          simp only [Act.put, List.setIfInBounds_toArray, List.set_cons_zero, List.set_cons_succ, i64_w, i32_w]
          rfl
        refine one_ (i := 4) (N := some 26) #[true, true, true, true, true, false, false, false, true, false, false] rfl rfl (by kernel_rfl) (by decide) (fun K hK => ?_)
        refine goes_ Try.func21 (by kernel_rfl) rfl #[.agg (FV ws sp gp (.slice A2 m.length c2)), .agg #[.int .u8 q.f0, .int .u8 q.f1, .int .i8 q.f2]] (by rfl) rfl rfl (by (try simp only [List.map_toArray, List.map_cons, List.map_nil]); first | done | rfl) ?_
        with_reducible refine (specWithD ws HX.out sp gp A2 c2 m q HQ.out _ G2.out D2.out HN3.out HFT.out rw rs rg rl code HLR.out).mono ?_
        rintro e u6 ⟨Bw, dw, rfl, hR, hb⟩
        refine ⟨_, rfl, ?_⟩
        have G2 := Lib.hid (Kd.C_below G2.out hb)
        have GA := Lib.hid ((hb.block _ (blk_lt GA.out)).trans GA.out)
        have R3 := Lib.hid (Kd.R_lower (Kd.R_mono (Kd.R_bound hR) (fun k hk => show wq.heap.size ≤ k ∧ k ≠ u1.heap.size from ⟨by have h1 := hk.2.1; have h2 := hHeld.size; omega, by have h1 := hk.2.1; have h2 := HGL.out; omega⟩)) (show w.heap.size ≤ u5.heap.size by have h1 := hHeld.size; have h2 := SQ.out; omega))
        clear hR
        have HGL := Lib.hid (Nat.lt_of_lt_of_le HGL.out hb.size)
        have hS_ := below_step hHeld hb
        clear hb hHeld
        refine hK.out _ _ hS_ (fun hHeld => ?_)
        clear hK K hS_
        refine norm_ (a' := ?_) ?_ ?_
        rotate_left
        · show Act.put _ (some 26) _ = _
          simp only [Act.put, List.setIfInBounds_toArray, List.set_cons_zero, List.set_cons_succ, i64_w, i32_w]
          rfl
        refine pure_ (i := 5) (N := some 21) (v := ?_) (a' := ?_) #[true, true, true, true, true, true, false, false, true, false, false] rfl rfl (by kernel_rfl) (fun _ _ _ h => h) (Or.inl ⟨by rfl, ?_⟩) ?_ ?_
        rotate_left
        · intro w'
          go_simp
          with_reducible rfl
        rotate_left
        · simp only [Act.put, List.setIfInBounds_toArray, List.set_cons_zero, List.set_cons_succ, i64_w, i32_w]
          rfl
        refine pure_ (i := 6) (N := some 27) (v := ?_) (a' := ?_) #[true, true, true, true, true, true, true, false, true, false, false] rfl rfl (by kernel_rfl) (fun _ _ _ h => h) (Or.inl ⟨by rfl, ?_⟩) ?_ ?_
        rotate_left
        · intro w'
          go_simp
          with_reducible rfl
        rotate_left
        · simp only [Act.put, List.setIfInBounds_toArray, List.set_cons_zero, List.set_cons_succ, i64_w, i32_w]
          rfl
        refine pure_ (i := 7) (N := some 28) (v := ?_) (a' := ?_) #[true, true, true, true, true, true, true, true, true, false, false] rfl rfl (by kernel_rfl) (fun _ _ _ h => h) (Or.inl ⟨by rfl, ?_⟩) ?_ ?_
        rotate_left
        · intro w'
          go_simp
          with_reducible rfl
        rotate_left
        · simp only [Act.put, List.setIfInBounds_toArray, List.set_cons_zero, List.set_cons_succ, i64_w, i32_w]
          rfl
        exact norm_ (by simp only [putAll, Act.put, List.setIfInBounds_toArray, List.set_cons_zero, List.set_cons_succ]) (hCont (.agg (FV ws sp gp (.slice A2 m.length c2)), u1.heap.size, _, _) _ ⟨hHeld, HG.out, GA.out, R3.out⟩)
    · skip
      refine value_ (w1 := ?_) (v := ?_) (by rfl) rfl ?_ ?_
      rotate_left 2
      · go_simp
        constructor
        · rfl
        · rfl
      have hb := below_alloc (Below.refl wq.heap.size wq) (.cells ZF U)
      have HG := Lib.hid (show wq.heap.size ≤ wq.heap.size from hHeld.size)
      have HGL := Lib.hid (show wq.heap.size < (wq.alloc (.cells ZF U)).heap.size by simp)
      have GA := Lib.hid (heap_alloc_new wq (.cells ZF U))
      have hS_ := below_step hHeld hb
      clear hb hHeld
      refine hK.out _ _ hS_ (fun hHeld => ?_)
      clear hK K hS_
      refine norm_ (a' := ?_) ?_ ?_
      rotate_left
      · show Act.put _ (some 6) _ = _
        simp only [Act.put, List.setIfInBounds_toArray, List.set_cons_zero, List.set_cons_succ, i64_w, i32_w]
        rfl
      refine one_ (i := 1) (N := some 23) #[true, true, true, false, false, false, false, false, true, false, false] rfl rfl (by kernel_rfl) (by decide) (fun K hK => ?_)
      refine goes_ Try.func10 (by kernel_rfl) rfl #[.agg (FV ws sp gp (.slice A l.length c))] (by rfl) rfl rfl (by (try simp only [List.map_toArray, List.map_cons, List.map_nil]); first | done | rfl) ?_
      with_reducible refine (toFaceM ws HX.out sp gp A c l m HP.out _ (Kd.C_below HR.out (below_step BQ.out hHeld)) HC.out HN1.out).mono ?_
      rintro e u7 ⟨A2, c2, rfl, hC, hc, hb⟩
      refine ⟨_, rfl, ?_⟩
      have GA := Lib.hid ((hb.block _ (blk_lt GA.out)).trans GA.out)
      have G2 := Lib.hid hC
      have D2 := Lib.hid hc
      clear hC hc
      have HGL := Lib.hid (Nat.lt_of_lt_of_le HGL.out hb.size)
      have hS_ := below_step hHeld hb
      clear hb hHeld
      refine hK.out _ _ hS_ (fun hHeld => ?_)
      clear hK K hS_
      refine norm_ (a' := ?_) ?_ ?_
      rotate_left
      · show Act.put _ (some 23) _ = _
        simp only [Act.put, List.setIfInBounds_toArray, List.set_cons_zero, List.set_cons_succ, i64_w, i32_w]
        rfl
      refine one_ (i := 3) (N := some 25) #[true, true, true, true, false, false, false, false, true, false, false] rfl rfl (by kernel_rfl) (by decide) (fun K hK => ?_)
      refine goes_ Try.func22 (by kernel_rfl) rfl #[.agg #[.int .u8 q.f0, .int .u8 q.f1, .int .i8 q.f2]] (by rfl) rfl rfl (by (try simp only [List.map_toArray, List.map_cons, List.map_nil]); first | done | rfl) ?_
      with_reducible refine (toPairC q _).mono ?_
      rintro e u8 ⟨rfl, hb⟩
      refine ⟨_, rfl, ?_⟩
      have G2 := Lib.hid (Kd.C_below G2.out hb)
      have GA := Lib.hid ((hb.block _ (blk_lt GA.out)).trans GA.out)
      have HGL := Lib.hid (Nat.lt_of_lt_of_le HGL.out hb.size)
      have hS_ := below_step hHeld hb
      clear hb hHeld
      refine hK.out _ _ hS_ (fun hHeld => ?_)
      clear hK K hS_
      refine norm_ (a' := ?_) ?_ ?_
      rotate_left
      · show Act.put _ (some 25) _ = _
        simp only [Act.put, List.setIfInBounds_toArray, List.set_cons_zero, List.set_cons_succ, i64_w, i32_w]
        rfl
      refine one_ (i := 4) (N := some 26) #[true, true, true, true, true, false, false, false, true, false, false] rfl rfl (by kernel_rfl) (by decide) (fun K hK => ?_)
      refine goes_ Try.func21 (by kernel_rfl) rfl #[.agg (FV ws sp gp (.slice A2 m.length c2)), .agg #[.int .u8 q.f0, .int .u8 q.f1, .int .i8 q.f2]] (by rfl) rfl rfl (by (try simp only [List.map_toArray, List.map_cons, List.map_nil]); first | done | rfl) ?_
      with_reducible refine (specWithD ws HX.out sp gp A2 c2 m q HQ.out _ G2.out D2.out HN3.out HFT.out rw rs rg rl code HLR.out).mono ?_
      rintro e u9 ⟨Bw, dw, rfl, hR, hb⟩
      refine ⟨_, rfl, ?_⟩
      have G2 := Lib.hid (Kd.C_below G2.out hb)
      have GA := Lib.hid ((hb.block _ (blk_lt GA.out)).trans GA.out)
      have R3 := Lib.hid (Kd.R_lower (Kd.R_mono (Kd.R_bound hR) (fun k hk => show wq.heap.size ≤ k ∧ k ≠ wq.heap.size from ⟨by have h1 := hk.2.1; have h2 := hHeld.size; omega, by have h1 := hk.2.1; have h2 := HGL.out; omega⟩)) (show w.heap.size ≤ u8.heap.size by have h1 := hHeld.size; have h2 := SQ.out; omega))
      clear hR
      have HGL := Lib.hid (Nat.lt_of_lt_of_le HGL.out hb.size)
      have hS_ := below_step hHeld hb
      clear hb hHeld
      refine hK.out _ _ hS_ (fun hHeld => ?_)
      clear hK K hS_
      refine norm_ (a' := ?_) ?_ ?_
      rotate_left
      · show Act.put _ (some 26) _ = _
        simp only [Act.put, List.setIfInBounds_toArray, List.set_cons_zero, List.set_cons_succ, i64_w, i32_w]
        rfl
      refine pure_ (i := 5) (N := some 21) (v := ?_) (a' := ?_) #[true, true, true, true, true, true, false, false, true, false, false] rfl rfl (by kernel_rfl) (fun _ _ _ h => h) (Or.inl ⟨by rfl, ?_⟩) ?_ ?_
      rotate_left
      · intro w'
        go_simp
        with_reducible rfl
      rotate_left
      · simp only [Act.put, List.setIfInBounds_toArray, List.set_cons_zero, List.set_cons_succ, i64_w, i32_w]
        rfl
      refine pure_ (i := 6) (N := some 27) (v := ?_) (a' := ?_) #[true, true, true, true, true, true, true, false, true, false, false] rfl rfl (by kernel_rfl) (fun _ _ _ h => h) (Or.inl ⟨by rfl, ?_⟩) ?_ ?_
      rotate_left
      · intro w'
        go_simp
        with_reducible rfl
      rotate_left
      · simp only [Act.put, List.setIfInBounds_toArray, List.set_cons_zero, List.set_cons_succ, i64_w, i32_w]
        rfl
      refine pure_ (i := 7) (N := some 28) (v := ?_) (a' := ?_) #[true, true, true, true, true, true, true, true, true, false, false] rfl rfl (by kernel_rfl) (fun _ _ _ h => h) (Or.inl ⟨by rfl, ?_⟩) ?_ ?_
      rotate_left
      · intro w'
        go_simp
        with_reducible rfl
      rotate_left
      · simp only [Act.put, List.setIfInBounds_toArray, List.set_cons_zero, List.set_cons_succ, i64_w, i32_w]
        rfl
      exact norm_ (by simp only [putAll, Act.put, List.setIfInBounds_toArray, List.set_cons_zero, List.set_cons_succ]) (hCont (.agg (FV ws sp gp (.slice A2 m.length c2)), wq.heap.size, _, _) _ ⟨hHeld, HG.out, GA.out, R3.out⟩)
  rintro ⟨v_, g6, Bw, dw⟩ w3 ⟨hHeld, hgl, hga, hR⟩
  have HGL := Lib.hid (show wq.heap.size ≤ g6 from hgl)
  have HGA := Lib.hid (show w3.heap[g6]? = some (.cells ZF U (0, 0)) from hga)
  have HRR := Lib.hid (show Kd.R k46 46 w3 w.heap.size (fun k => wq.heap.size ≤ k ∧ k ≠ g6) (.slice Bw rl.length dw) rl from hR)
  clear hgl hga hR
  refine norm_ (a' := ?_) ?_ ?_
  rotate_left
  · simp only [putAll, Act.put, List.setIfInBounds_toArray, List.set_cons_zero, List.set_cons_succ]
    rfl
  refine one_ (i := 9) (N := none) #[true, true, true, true, true, true, true, true, true, true, false] rfl rfl (by kernel_rfl) (by decide) (fun K hK => ?_)
  have hst : (storeCells ⟨g6, 0, none⟩ (FV rw rs rg (.slice Bw rl.length dw)).toList 0).run Try.prog w3 = .ok () (w3.setRow g6 (FV rw rs rg (.slice Bw rl.length dw))) := storeF HGA.out Z26_len HRX.out
  refine skip_ (w1 := ?wn_g6) (by rfl) rfl ?hrun_g6 ?_
  case hrun_g6 =>
    go_simp
    with_reducible rfl
  refine hK.out _ _ (below_setRow hHeld HGL.out _) (fun hHeld => ?_)
  clear hK K hst
  refine pure_ (i := 10) (N := some 7) (v := ?_) (a' := ?_) #[true, true, true, true, true, true, true, true, true, true, true] rfl rfl (by kernel_rfl) (fun _ _ _ h => h) (Or.inl ⟨by rfl, ?_⟩) ?_ ?_
  rotate_left
  · intro w'
    go_simp
    with_reducible rfl
  rotate_left
  · simp only [Act.put, List.setIfInBounds_toArray, List.set_cons_zero, List.set_cons_succ, i64_w, i32_w]
    rfl
  refine done_ (by kernel_rfl) ?_
  have RS := Lib.hid (Kd.R_step HRR.out (fun k hk _ => setRow_other w3 g6 k (FV rw rs rg (.slice Bw rl.length dw)) hk.2))
  have CS := Lib.hid (setRow_heap w3 g6 _ (FV rw rs rg (.slice Bw rl.length dw)) U (0, 0) HGA.out)
  obtain ⟨w4, hww⟩ : ∃ W, W = w3.setRow g6 (FV rw rs rg (.slice Bw rl.length dw)) := ⟨_, rfl⟩
  rw [← hww] at hHeld RS CS ⊢
  clear hww HRR HGA
  have B4 := Lib.hid (below_step BQ.out hHeld)
  have S4 := Lib.hid hHeld.size
  have K4 := Lib.hid ((hHeld.block _ (blk_lt Q0.out)).trans Q0.out)
  have P4 := Lib.hid ((hHeld.block _ (blk_lt QP.out)).trans QP.out)
  have GL4 := Lib.hid (blk_lt CS.out)
  have R4 := Lib.hid (Kd.R_mono (Kd.R_bound RS.out) (fun k hk => show wq.heap.size ≤ k ∧ k < w4.heap.size ∧ k ≠ g6 from ⟨hk.1.1, hk.2.2.1, hk.1.2⟩))
  have C4 := Lib.hid CS.out
  have G6L := Lib.hid HGL.out
  clear hHeld RS CS HGL Q0 QP BQ
  have q4 := loadF K4.out HX.out HM.out
  go_wp2_with (first
    | (go_at_call 10
       with_reducible refine (toFaceRM ws HX.out sp gp A c l m HP.out _ (Kd.C_below HR.out B4.out) HC.out HN1.out).mono ?_
       rintro e w5 ⟨A3, c3, rfl, hR, hb⟩
       have B5 := Lib.hid (below_step B4.out hb)
       have S5 := Lib.hid (show w4.heap.size ≤ w5.heap.size from hb.size)
       have X5 := Lib.hid (Kd.R_lower (Kd.R_mono (Kd.R_bound hR) (fun k hk => show w4.heap.size ≤ k ∧ k < w5.heap.size from ⟨hk.2.1, hk.2.2.1⟩)) (show w.heap.size ≤ w4.heap.size by have := SQ.out; have := S4.out; omega))
       obtain ⟨x1, x2, x3⟩ := boxed w5 U ws sp gp (.slice A3 m.length c3)
       have hstw6 := store_new w5 U ws HX.out sp gp A3 m.length c3
       obtain ⟨w6, hw6⟩ : ∃ w6, w6 = (w5.alloc (.cells ZF U)).setRow w5.heap.size (FV ws sp gp (.slice A3 m.length c3)) := ⟨_, rfl⟩
       rw [← hw6] at hstw6 x1 x2 x3
       clear hw6
       have hb6 := hb.trans (below_weak x1 hb.size)
       have B6 := Lib.hid (below_step B5.out x1)
       have S6 := Lib.hid x3
       have K6 := Lib.hid ((hb6.block _ (blk_lt K4.out)).trans K4.out)
       have P6 := Lib.hid ((hb6.block _ (blk_lt P4.out)).trans P4.out)
       have C6 := Lib.hid ((hb6.block _ (blk_lt C4.out)).trans C4.out)
       have E6 := Lib.hid x2
       have R6 := Lib.hid (Kd.R_below R4.out hb6)
       have X6 := Lib.hid (Kd.R_below X5.out x1)
       clear x1 x2 x3 hR hb hb6 K4 P4 C4 R4 X5 q4 B4 B5))
  clear hstw6
  refine start_ (n := 10) (S := fun w' => Below w6.drew.heap.size w6.drew w') (ds := []) #[false, false, false, false, false, false, false, false, false, false] (by kernel_rfl) rfl rfl (Below.refl _ _) (fun hHeld => ?_)
  have BQ := Lib.hid (below_drew1 B6.out)
  have K7 := Lib.hid (show w6.drew.heap[w.heap.size]? = some (.cells (FV ws sp gp (.slice A l.length c)) 26 (0, 0)) from K6.out)
  have P7 := Lib.hid (show w6.drew.heap[w.heap.size + 1]? = some (.cells #[.int .u8 q.f0, .int .u8 q.f1, .int .i8 q.f2] 44 (0, 0)) from P6.out)
  have C7 := Lib.hid (show w6.drew.heap[g6]? = some (.cells (FV rw rs rg (.slice Bw rl.length dw)) U (0, 0)) from C6.out)
  have E7 := Lib.hid (show w6.drew.heap[w5.heap.size]? = some (.cells (FV ws sp gp (.slice A3 m.length c3)) U (0, 0)) from E6.out)
  have SR := Lib.hid (show w5.heap.size < w6.drew.heap.size from S6.out)
  have R7 := Lib.hid (Kd.R_below R6.out (below_drew1 (Below.refl w6.heap.size w6)))
  have X7 := Lib.hid (Kd.R_below X6.out (below_drew1 (Below.refl w6.heap.size w6)))
  clear K6 P6 C6 E6 S6 R6 X6 B6
  generalize w6.drew = wr at BQ K7 P7 C7 E7 SR R7 X7 hHeld ⊢
  refine take_ (i := 0) (N := some 32) (v := ?_) (a' := ?_) #[true, false, false, false, false, false, false, false, false, false] rfl rfl (by kernel_rfl) (fun _ _ _ h => h) (Or.inl ⟨by rfl, ?_⟩) hHeld ?_ ?_
  rotate_left
  · rintro w' s
    have q := loadF ((s.block _ (blk_lt E7.out)).trans E7.out) HX.out HM.out
    go_simp
    with_reducible rfl
  rotate_left
  · simp only [Act.put, List.setIfInBounds_toArray, List.set_cons_zero, List.set_cons_succ, i64_w, i32_w]
    rfl
  refine take_ (i := 1) (N := some 33) (v := ?_) (a' := ?_) #[true, true, false, false, false, false, false, false, false, false] rfl rfl (by kernel_rfl) (fun _ _ _ h => h) (Or.inl ⟨by rfl, ?_⟩) hHeld ?_ ?_
  rotate_left
  · rintro w' s
    obtain ⟨q0, q1, q2⟩ := pair_at P7.out s
    go_simp
    with_reducible rfl
  rotate_left
  · simp only [Act.put, List.setIfInBounds_toArray, List.set_cons_zero, List.set_cons_succ, i64_w, i32_w]
    rfl
  refine join_ (σ := Value × Nat × Option Addr × Nat) 2 #[true, true, true, true, true, true, true, true, false, false] (fun s_ => [(34, .agg #[.int .u8 q.f0, .int .u8 q.f1, .int .i8 q.f2]), (35, .tuple #[.agg (FV rw rs rg (.slice s_.2.2.1 rl.length s_.2.2.2)), .int .i64 code]), (31, .tuple #[.agg (FV rw rs rg (.slice s_.2.2.1 rl.length s_.2.2.2)), .int .i64 code]), (36, .agg (FV rw rs rg (.slice s_.2.2.1 rl.length s_.2.2.2))), (37, .int .i64 code), (9, .pointer (some ⟨s_.2.1, 0, none⟩))]) (fun s_ w' => Below wr.heap.size wr w' ∧ wr.heap.size ≤ s_.2.1 ∧ w'.heap[s_.2.1]? = some (.cells ZF U (0, 0)) ∧ Kd.R k46 46 w' w.heap.size (fun k => wr.heap.size ≤ k ∧ k ≠ s_.2.1) (.slice s_.2.2.1 rl.length s_.2.2.2) rl) ?_ ?_
  rotate_left
  · intro hCont
    refine two_ (i := 2) (j := 7) (Ni := some 34) (Nj := some 9) #[true, true, true, false, false, false, false, false, false, false] #[true, true, false, false, false, false, false, true, false, false] rfl rfl rfl rfl (by kernel_rfl) (by decide) (by decide) (fun K hK => ?_) (fun K hK => ?_)
    · skip
      refine goes_ Try.func22 (by kernel_rfl) rfl #[.agg #[.int .u8 q.f0, .int .u8 q.f1, .int .i8 q.f2]] (by rfl) rfl rfl (by (try simp only [List.map_toArray, List.map_cons, List.map_nil]); first | done | rfl) ?_
      with_reducible refine (toPairC q _).mono ?_
      rintro e u10 ⟨rfl, hb⟩
      refine ⟨_, rfl, ?_⟩
      have hS_ := below_step hHeld hb
      clear hb hHeld
      refine hK.out _ _ hS_ (fun hHeld => ?_)
      clear hK K hS_
      refine norm_ (a' := ?_) ?_ ?_
      rotate_left
      · show Act.put _ (some 34) _ = _
        simp only [Act.put, List.setIfInBounds_toArray, List.set_cons_zero, List.set_cons_succ, i64_w, i32_w]
        rfl
      refine two_ (i := 3) (j := 7) (Ni := some 35) (Nj := some 9) #[true, true, true, true, false, false, false, false, false, false] #[true, true, true, false, false, false, false, true, false, false] rfl rfl rfl rfl (by kernel_rfl) (by decide) (by decide) (fun K hK => ?_) (fun K hK => ?_)
      · skip
        refine goes_ Try.func23 (by kernel_rfl) rfl #[.agg (FV ws sp gp (.slice A3 m.length c3)), .agg #[.int .u8 q.f0, .int .u8 q.f1, .int .i8 q.f2]] (by rfl) rfl rfl (by (try simp only [List.map_toArray, List.map_cons, List.map_nil]); first | done | rfl) ?_
        with_reducible refine (implWithD ws HX.out sp gp A3 c3 m q HQ.out _ (Kd.R_reads' (Kd.R_below X7.out hHeld)).2.2 (Kd.R_reads' X7.out).2.1 HN3.out HFT.out rw rs rg rl code HLR.out).mono ?_
        rintro e u11 ⟨Bg, dg, rfl, hR, hb⟩
        refine ⟨_, rfl, ?_⟩
        have R3 := Lib.hid (Kd.R_lower (Kd.R_mono (Kd.R_bound hR) (fun k hk => show wr.heap.size ≤ k ∧ k < u11.heap.size from ⟨by have h1 := hk.2.1; have h2 := hHeld.size; omega, hk.2.2.1⟩)) (show w.heap.size ≤ u10.heap.size by have h1 := hHeld.size; have h2 := (show w.heap.size ≤ wr.heap.size by have := SQ.out; have := S4.out; have := S5.out; have := SR.out; omega); omega))
        clear hR
        have hS_ := below_step hHeld hb
        clear hb hHeld
        refine hK.out _ _ hS_ (fun hHeld => ?_)
        clear hK K hS_
        refine norm_ (a' := ?_) ?_ ?_
        rotate_left
        · show Act.put _ (some 35) _ = _
          simp only [Act.put, List.setIfInBounds_toArray, List.set_cons_zero, List.set_cons_succ, i64_w, i32_w]
          rfl
        refine pure_ (i := 4) (N := some 31) (v := ?_) (a' := ?_) #[true, true, true, true, true, false, false, false, false, false] rfl rfl (by kernel_rfl) (fun _ _ _ h => h) (Or.inl ⟨by rfl, ?_⟩) ?_ ?_
        rotate_left
        · intro w'
          go_simp
          with_reducible rfl
        rotate_left
        · simp only [Act.put, List.setIfInBounds_toArray, List.set_cons_zero, List.set_cons_succ, i64_w, i32_w]
          rfl
        refine pure_ (i := 5) (N := some 36) (v := ?_) (a' := ?_) #[true, true, true, true, true, true, false, false, false, false] rfl rfl (by kernel_rfl) (fun _ _ _ h => h) (Or.inl ⟨by rfl, ?_⟩) ?_ ?_
        rotate_left
        · intro w'
          go_simp
          with_reducible rfl
        rotate_left
        · simp only [Act.put, List.setIfInBounds_toArray, List.set_cons_zero, List.set_cons_succ, i64_w, i32_w]
          rfl
        refine pure_ (i := 6) (N := some 37) (v := ?_) (a' := ?_) #[true, true, true, true, true, true, true, false, false, false] rfl rfl (by kernel_rfl) (fun _ _ _ h => h) (Or.inl ⟨by rfl, ?_⟩) ?_ ?_
        rotate_left
        · intro w'
          go_simp
          with_reducible rfl
        rotate_left
        · simp only [Act.put, List.setIfInBounds_toArray, List.set_cons_zero, List.set_cons_succ, i64_w, i32_w]
          rfl
        refine one_ (i := 7) (N := some 9) #[true, true, true, true, true, true, true, true, false, false] rfl rfl (by kernel_rfl) (by decide) (fun K hK => ?_)
        refine value_ (w1 := ?_) (v := ?_) (by rfl) rfl ?_ ?_
        rotate_left 2
        · go_simp
          constructor
          · rfl
          · rfl
        have hb := below_alloc (Below.refl u11.heap.size u11) (.cells ZF U)
        have R3 := Lib.hid (Kd.R_below R3.out hb)
        have R3 := Lib.hid (Kd.R_mono R3.out (fun k hk => show wr.heap.size ≤ k ∧ k ≠ u11.heap.size from ⟨hk.1, Nat.ne_of_lt hk.2⟩))
        have HG := Lib.hid (show wr.heap.size ≤ u11.heap.size from hHeld.size)
        have HGL := Lib.hid (show u11.heap.size < (u11.alloc (.cells ZF U)).heap.size by simp)
        have GA := Lib.hid (heap_alloc_new u11 (.cells ZF U))
        have hS_ := below_step hHeld hb
        clear hb hHeld
        refine hK.out _ _ hS_ (fun hHeld => ?_)
        clear hK K hS_
        refine norm_ (a' := ?_) ?_ ?_
        rotate_left
        · show Act.put _ (some 9) _ = _
          simp only [Act.put, List.setIfInBounds_toArray, List.set_cons_zero, List.set_cons_succ, i64_w, i32_w]
          rfl
        exact norm_ (by simp only [putAll, Act.put, List.setIfInBounds_toArray, List.set_cons_zero, List.set_cons_succ]) (hCont (undef, u11.heap.size, _, _) _ ⟨hHeld, HG.out, GA.out, R3.out⟩)
      · skip
        refine value_ (w1 := ?_) (v := ?_) (by rfl) rfl ?_ ?_
        rotate_left 2
        · go_simp
          constructor
          · rfl
          · rfl
        have hb := below_alloc (Below.refl u10.heap.size u10) (.cells ZF U)
        have HG := Lib.hid (show wr.heap.size ≤ u10.heap.size from hHeld.size)
        have HGL := Lib.hid (show u10.heap.size < (u10.alloc (.cells ZF U)).heap.size by simp)
        have GA := Lib.hid (heap_alloc_new u10 (.cells ZF U))
        have hS_ := below_step hHeld hb
        clear hb hHeld
        refine hK.out _ _ hS_ (fun hHeld => ?_)
        clear hK K hS_
        refine norm_ (a' := ?_) ?_ ?_
        rotate_left
        · show Act.put _ (some 9) _ = _
          simp only [Act.put, List.setIfInBounds_toArray, List.set_cons_zero, List.set_cons_succ, i64_w, i32_w]
          rfl
        refine one_ (i := 3) (N := some 35) #[true, true, true, true, false, false, false, true, false, false] rfl rfl (by kernel_rfl) (by decide) (fun K hK => ?_)
        refine goes_ Try.func23 (by kernel_rfl) rfl #[.agg (FV ws sp gp (.slice A3 m.length c3)), .agg #[.int .u8 q.f0, .int .u8 q.f1, .int .i8 q.f2]] (by rfl) rfl rfl (by (try simp only [List.map_toArray, List.map_cons, List.map_nil]); first | done | rfl) ?_
        with_reducible refine (implWithD ws HX.out sp gp A3 c3 m q HQ.out _ (Kd.R_reads' (Kd.R_below X7.out hHeld)).2.2 (Kd.R_reads' X7.out).2.1 HN3.out HFT.out rw rs rg rl code HLR.out).mono ?_
        rintro e u12 ⟨Bg, dg, rfl, hR, hb⟩
        refine ⟨_, rfl, ?_⟩
        have GA := Lib.hid ((hb.block _ (blk_lt GA.out)).trans GA.out)
        have R3 := Lib.hid (Kd.R_lower (Kd.R_mono (Kd.R_bound hR) (fun k hk => show wr.heap.size ≤ k ∧ k ≠ u10.heap.size from ⟨by have h1 := hk.2.1; have h2 := hHeld.size; omega, by have h1 := hk.2.1; have h2 := HGL.out; omega⟩)) (show w.heap.size ≤ (u10.alloc (.cells ZF U)).heap.size by have h1 := hHeld.size; have h2 := (show w.heap.size ≤ wr.heap.size by have := SQ.out; have := S4.out; have := S5.out; have := SR.out; omega); omega))
        clear hR
        have HGL := Lib.hid (Nat.lt_of_lt_of_le HGL.out hb.size)
        have hS_ := below_step hHeld hb
        clear hb hHeld
        refine hK.out _ _ hS_ (fun hHeld => ?_)
        clear hK K hS_
        refine norm_ (a' := ?_) ?_ ?_
        rotate_left
        · show Act.put _ (some 35) _ = _
          simp only [Act.put, List.setIfInBounds_toArray, List.set_cons_zero, List.set_cons_succ, i64_w, i32_w]
          rfl
        refine pure_ (i := 4) (N := some 31) (v := ?_) (a' := ?_) #[true, true, true, true, true, false, false, true, false, false] rfl rfl (by kernel_rfl) (fun _ _ _ h => h) (Or.inl ⟨by rfl, ?_⟩) ?_ ?_
        rotate_left
        · intro w'
          go_simp
          with_reducible rfl
        rotate_left
        · simp only [Act.put, List.setIfInBounds_toArray, List.set_cons_zero, List.set_cons_succ, i64_w, i32_w]
          rfl
        refine pure_ (i := 5) (N := some 36) (v := ?_) (a' := ?_) #[true, true, true, true, true, true, false, true, false, false] rfl rfl (by kernel_rfl) (fun _ _ _ h => h) (Or.inl ⟨by rfl, ?_⟩) ?_ ?_
        rotate_left
        · intro w'
          go_simp
          with_reducible rfl
        rotate_left
        · simp only [Act.put, List.setIfInBounds_toArray, List.set_cons_zero, List.set_cons_succ, i64_w, i32_w]
          rfl
        refine pure_ (i := 6) (N := some 37) (v := ?_) (a' := ?_) #[true, true, true, true, true, true, true, true, false, false] rfl rfl (by kernel_rfl) (fun _ _ _ h => h) (Or.inl ⟨by rfl, ?_⟩) ?_ ?_
        rotate_left
        · intro w'
          go_simp
          with_reducible rfl
        rotate_left
        · simp only [Act.put, List.setIfInBounds_toArray, List.set_cons_zero, List.set_cons_succ, i64_w, i32_w]
          rfl
        exact norm_ (by simp only [putAll, Act.put, List.setIfInBounds_toArray, List.set_cons_zero, List.set_cons_succ]) (hCont (undef, u10.heap.size, _, _) _ ⟨hHeld, HG.out, GA.out, R3.out⟩)
    · skip
      refine value_ (w1 := ?_) (v := ?_) (by rfl) rfl ?_ ?_
      rotate_left 2
      · go_simp
        constructor
        · rfl
        · rfl
      have hb := below_alloc (Below.refl wr.heap.size wr) (.cells ZF U)
      have HG := Lib.hid (show wr.heap.size ≤ wr.heap.size from hHeld.size)
      have HGL := Lib.hid (show wr.heap.size < (wr.alloc (.cells ZF U)).heap.size by simp)
      have GA := Lib.hid (heap_alloc_new wr (.cells ZF U))
      have hS_ := below_step hHeld hb
      clear hb hHeld
      refine hK.out _ _ hS_ (fun hHeld => ?_)
      clear hK K hS_
      refine norm_ (a' := ?_) ?_ ?_
      rotate_left
      · show Act.put _ (some 9) _ = _
        simp only [Act.put, List.setIfInBounds_toArray, List.set_cons_zero, List.set_cons_succ, i64_w, i32_w]
        rfl
      refine one_ (i := 2) (N := some 34) #[true, true, true, false, false, false, false, true, false, false] rfl rfl (by kernel_rfl) (by decide) (fun K hK => ?_)
      refine goes_ Try.func22 (by kernel_rfl) rfl #[.agg #[.int .u8 q.f0, .int .u8 q.f1, .int .i8 q.f2]] (by rfl) rfl rfl (by (try simp only [List.map_toArray, List.map_cons, List.map_nil]); first | done | rfl) ?_
      with_reducible refine (toPairC q _).mono ?_
      rintro e u13 ⟨rfl, hb⟩
      refine ⟨_, rfl, ?_⟩
      have GA := Lib.hid ((hb.block _ (blk_lt GA.out)).trans GA.out)
      have HGL := Lib.hid (Nat.lt_of_lt_of_le HGL.out hb.size)
      have hS_ := below_step hHeld hb
      clear hb hHeld
      refine hK.out _ _ hS_ (fun hHeld => ?_)
      clear hK K hS_
      refine norm_ (a' := ?_) ?_ ?_
      rotate_left
      · show Act.put _ (some 34) _ = _
        simp only [Act.put, List.setIfInBounds_toArray, List.set_cons_zero, List.set_cons_succ, i64_w, i32_w]
        rfl
      refine one_ (i := 3) (N := some 35) #[true, true, true, true, false, false, false, true, false, false] rfl rfl (by kernel_rfl) (by decide) (fun K hK => ?_)
      refine goes_ Try.func23 (by kernel_rfl) rfl #[.agg (FV ws sp gp (.slice A3 m.length c3)), .agg #[.int .u8 q.f0, .int .u8 q.f1, .int .i8 q.f2]] (by rfl) rfl rfl (by (try simp only [List.map_toArray, List.map_cons, List.map_nil]); first | done | rfl) ?_
      with_reducible refine (implWithD ws HX.out sp gp A3 c3 m q HQ.out _ (Kd.R_reads' (Kd.R_below X7.out hHeld)).2.2 (Kd.R_reads' X7.out).2.1 HN3.out HFT.out rw rs rg rl code HLR.out).mono ?_
      rintro e u14 ⟨Bg, dg, rfl, hR, hb⟩
      refine ⟨_, rfl, ?_⟩
      have GA := Lib.hid ((hb.block _ (blk_lt GA.out)).trans GA.out)
      have R3 := Lib.hid (Kd.R_lower (Kd.R_mono (Kd.R_bound hR) (fun k hk => show wr.heap.size ≤ k ∧ k ≠ wr.heap.size from ⟨by have h1 := hk.2.1; have h2 := hHeld.size; omega, by have h1 := hk.2.1; have h2 := HGL.out; omega⟩)) (show w.heap.size ≤ u13.heap.size by have h1 := hHeld.size; have h2 := (show w.heap.size ≤ wr.heap.size by have := SQ.out; have := S4.out; have := S5.out; have := SR.out; omega); omega))
      clear hR
      have HGL := Lib.hid (Nat.lt_of_lt_of_le HGL.out hb.size)
      have hS_ := below_step hHeld hb
      clear hb hHeld
      refine hK.out _ _ hS_ (fun hHeld => ?_)
      clear hK K hS_
      refine norm_ (a' := ?_) ?_ ?_
      rotate_left
      · show Act.put _ (some 35) _ = _
        simp only [Act.put, List.setIfInBounds_toArray, List.set_cons_zero, List.set_cons_succ, i64_w, i32_w]
        rfl
      refine pure_ (i := 4) (N := some 31) (v := ?_) (a' := ?_) #[true, true, true, true, true, false, false, true, false, false] rfl rfl (by kernel_rfl) (fun _ _ _ h => h) (Or.inl ⟨by rfl, ?_⟩) ?_ ?_
      rotate_left
      · intro w'
        go_simp
        with_reducible rfl
      rotate_left
      · simp only [Act.put, List.setIfInBounds_toArray, List.set_cons_zero, List.set_cons_succ, i64_w, i32_w]
        rfl
      refine pure_ (i := 5) (N := some 36) (v := ?_) (a' := ?_) #[true, true, true, true, true, true, false, true, false, false] rfl rfl (by kernel_rfl) (fun _ _ _ h => h) (Or.inl ⟨by rfl, ?_⟩) ?_ ?_
      rotate_left
      · intro w'
        go_simp
        with_reducible rfl
      rotate_left
      · simp only [Act.put, List.setIfInBounds_toArray, List.set_cons_zero, List.set_cons_succ, i64_w, i32_w]
        rfl
      refine pure_ (i := 6) (N := some 37) (v := ?_) (a' := ?_) #[true, true, true, true, true, true, true, true, false, false] rfl rfl (by kernel_rfl) (fun _ _ _ h => h) (Or.inl ⟨by rfl, ?_⟩) ?_ ?_
      rotate_left
      · intro w'
        go_simp
        with_reducible rfl
      rotate_left
      · simp only [Act.put, List.setIfInBounds_toArray, List.set_cons_zero, List.set_cons_succ, i64_w, i32_w]
        rfl
      exact norm_ (by simp only [putAll, Act.put, List.setIfInBounds_toArray, List.set_cons_zero, List.set_cons_succ]) (hCont (undef, wr.heap.size, _, _) _ ⟨hHeld, HG.out, GA.out, R3.out⟩)
  rintro ⟨v_, g9, Bg, dg⟩ w7 ⟨hHeld, hgl, hga, hR⟩
  have HGL := Lib.hid (show wr.heap.size ≤ g9 from hgl)
  have HGA := Lib.hid (show w7.heap[g9]? = some (.cells ZF U (0, 0)) from hga)
  have HRR := Lib.hid (show Kd.R k46 46 w7 w.heap.size (fun k => wr.heap.size ≤ k ∧ k ≠ g9) (.slice Bg rl.length dg) rl from hR)
  clear hgl hga hR
  refine norm_ (a' := ?_) ?_ ?_
  rotate_left
  · simp only [putAll, Act.put, List.setIfInBounds_toArray, List.set_cons_zero, List.set_cons_succ]
    rfl
  refine one_ (i := 8) (N := none) #[true, true, true, true, true, true, true, true, true, false] rfl rfl (by kernel_rfl) (by decide) (fun K hK => ?_)
  have hst : (storeCells ⟨g9, 0, none⟩ (FV rw rs rg (.slice Bg rl.length dg)).toList 0).run Try.prog w7 = .ok () (w7.setRow g9 (FV rw rs rg (.slice Bg rl.length dg))) := storeF HGA.out Z26_len HRX.out
  refine skip_ (w1 := ?wn_g9) (by rfl) rfl ?hrun_g9 ?_
  case hrun_g9 =>
    go_simp
    with_reducible rfl
  refine hK.out _ _ (below_setRow hHeld HGL.out _) (fun hHeld => ?_)
  clear hK K hst
  refine pure_ (i := 9) (N := some 10) (v := ?_) (a' := ?_) #[true, true, true, true, true, true, true, true, true, true] rfl rfl (by kernel_rfl) (fun _ _ _ h => h) (Or.inl ⟨by rfl, ?_⟩) ?_ ?_
  rotate_left
  · intro w'
    go_simp
    with_reducible rfl
  rotate_left
  · simp only [Act.put, List.setIfInBounds_toArray, List.set_cons_zero, List.set_cons_succ, i64_w, i32_w]
    rfl
  refine done_ (by kernel_rfl) ?_
  have RS := Lib.hid (Kd.R_step HRR.out (fun k hk _ => setRow_other w7 g9 k (FV rw rs rg (.slice Bg rl.length dg)) hk.2))
  have CS := Lib.hid (setRow_heap w7 g9 _ (FV rw rs rg (.slice Bg rl.length dg)) U (0, 0) HGA.out)
  obtain ⟨w8, hww⟩ : ∃ W, W = w7.setRow g9 (FV rw rs rg (.slice Bg rl.length dg)) := ⟨_, rfl⟩
  rw [← hww] at hHeld RS CS ⊢
  clear hww HRR HGA
  have B8 := Lib.hid (below_step BQ.out hHeld)
  have S8 := Lib.hid hHeld.size
  have R8 := Lib.hid (Kd.R_mono (Kd.R_bound RS.out) (fun k hk => show wr.heap.size ≤ k ∧ k < w8.heap.size ∧ k ≠ g9 from ⟨hk.1.1, hk.2.2.1, hk.1.2⟩))
  have I8 := Lib.hid (show InvW (FV ws sp gp (.slice A l.length c)) #[.int .u8 q.f0, .int .u8 q.f1, .int .i8 q.f2] (FV rw rs rg (.slice Bw rl.length dw)) (FV ws sp gp (.slice A3 m.length c3)) (FV rw rs rg (.slice Bg rl.length dg)) 26 U w.heap.size (w.heap.size + 1) g6 w5.heap.size g9 w.heap.size (fun k => wq.heap.size ≤ k ∧ k < w4.heap.size ∧ k ≠ g6) (fun k => w4.heap.size ≤ k ∧ k < w5.heap.size) (fun k => wr.heap.size ≤ k ∧ k < w8.heap.size ∧ k ≠ g9) (.slice Bw rl.length dw) (.slice A3 m.length c3) (.slice Bg rl.length dg) rl m rl w8 from ⟨fun k hk => by have h1 := SQ.out; have h2 := S4.out; have h3 := S5.out; have h4 := SR.out; have h5 := GL4.out; have h6 := HGL.out; have h7 := G6L.out; refine ⟨?_, ?_, ?_, ?_, ?_, ?_, ?_⟩ <;> omega, fun k hk => by have h1 := SQ.out; have h2 := S4.out; have h3 := S5.out; have h4 := SR.out; have h5 := GL4.out; have h6 := HGL.out; have h7 := G6L.out; refine ⟨?_, ?_, ?_, ?_, ?_, ?_, ?_⟩ <;> omega,
    (hHeld.block _ (blk_lt K7.out)).trans K7.out, (hHeld.block _ (blk_lt P7.out)).trans P7.out, (hHeld.block _ (blk_lt C7.out)).trans C7.out, (hHeld.block _ (blk_lt E7.out)).trans E7.out, CS.out, Kd.R_below R7.out hHeld, Kd.R_below X7.out hHeld, R8.out⟩)
  clear hHeld RS CS BQ K7 P7 C7 E7 R7 X7 R8
  have q9 := loadF I8.out.k9 HRX.out HM.out
  have q10 := loadF I8.out.k6 HRX.out HM.out
  go_wp2_with (first
    | (go_at_call 12
       with_reducible refine (eqFaceC rw HRX.out rs rg Bg Bw dg dw rl _ (Kd.R_reads' I8.out.rg).2.2 (Kd.R_reads' I8.out.rg).2.1 (Kd.R_reads' I8.out.rw).2.2 (Kd.R_reads' I8.out.rw).2.1 HRL.out).mono ?_
       rintro e w9 ⟨rfl, hb⟩
       have B9 := Lib.hid (below_step B8.out hb)
       have I9 := Lib.hid (I8.out.below hb)
       clear hb I8 q9 q10))
  refine start_ (n := 5) (S := fun w' => InvW (FV ws sp gp (.slice A l.length c)) #[.int .u8 q.f0, .int .u8 q.f1, .int .i8 q.f2] (FV rw rs rg (.slice Bw rl.length dw)) (FV ws sp gp (.slice A3 m.length c3)) (FV rw rs rg (.slice Bg rl.length dg)) 26 U w.heap.size (w.heap.size + 1) g6 w5.heap.size g9 w.heap.size (fun k => wq.heap.size ≤ k ∧ k < w4.heap.size ∧ k ≠ g6) (fun k => w4.heap.size ≤ k ∧ k < w5.heap.size) (fun k => wr.heap.size ≤ k ∧ k < w8.heap.size ∧ k ≠ g9) (.slice Bw rl.length dw) (.slice A3 m.length c3) (.slice Bg rl.length dg) rl m rl w') (ds := []) #[false, false, false, false, false] (by kernel_rfl) rfl rfl (I9.out.below (below_drew1 (Below.refl _ _))) (fun hHeld => ?_)
  have B12 := Lib.hid (below_drew1 B9.out)
  generalize w9.drew = w12 at B12 hHeld ⊢
  clear I9
  refine take_ (i := 0) (N := some 47) (v := ?_) (a' := ?_) #[true, false, false, false, false] rfl rfl (by kernel_rfl) (fun _ _ _ h => h) (Or.inl ⟨by rfl, ?_⟩) hHeld ?_ ?_
  rotate_left
  · rintro w' s
    have q := loadF s.k8 HX.out HM.out
    go_simp
    with_reducible rfl
  rotate_left
  · simp only [Act.put, List.setIfInBounds_toArray, List.set_cons_zero, List.set_cons_succ, i64_w, i32_w]
    rfl
  refine take_ (i := 1) (N := some 48) (v := ?_) (a' := ?_) #[true, true, false, false, false] rfl rfl (by kernel_rfl) (fun _ _ _ h => h) (Or.inl ⟨by rfl, ?_⟩) hHeld ?_ ?_
  rotate_left
  · rintro w' s
    have q := loadF s.k0 HX.out HM.out
    go_simp
    with_reducible rfl
  rotate_left
  · simp only [Act.put, List.setIfInBounds_toArray, List.set_cons_zero, List.set_cons_succ, i64_w, i32_w]
    rfl
  refine one_ (i := 2) (N := some 49) #[true, true, true, false, false] rfl rfl (by kernel_rfl) (by decide) (fun K hK => ?_)
  refine goes_ Try.func10 (by kernel_rfl) rfl #[.agg (FV ws sp gp (.slice A l.length c))] (by rfl) rfl rfl (by (try simp only [List.map_toArray, List.map_cons, List.map_nil]); first | done | rfl) ?_
  with_reducible refine (toFaceM ws HX.out sp gp A c l m HP.out _ (Kd.C_below HR.out B12.out) HC.out HN1.out).mono ?_
  rintro e w13 ⟨A5, c5, rfl, hC, hc, hb⟩
  refine ⟨_, rfl, ?_⟩
  have B13 := Lib.hid (below_step B12.out hb)
  have I13 := Lib.hid (hHeld.below hb)
  have G7 := Lib.hid hC
  have D7 := Lib.hid hc
  clear hC hc hb hHeld
  refine hK.out _ _ I13.out (fun hHeld => ?_)
  clear hK K
  refine norm_ (a' := ?_) ?_ ?_
  rotate_left
  · show Act.put _ (some 49) _ = _
    simp only [Act.put, List.setIfInBounds_toArray, List.set_cons_zero, List.set_cons_succ, i64_w, i32_w]
    rfl
  refine one_ (i := 3) (N := some 50) #[true, true, true, true, false] rfl rfl (by kernel_rfl) (by decide) (fun K hK => ?_)
  refine goes_ Try.func12 (by kernel_rfl) rfl #[.agg (FV ws sp gp (.slice A3 m.length c3)), .agg (FV ws sp gp (.slice A5 m.length c5))] (by rfl) rfl rfl (by (try simp only [List.map_toArray, List.map_cons, List.map_nil]); first | done | rfl) ?_
  with_reducible refine (eqFaceC ws HX.out sp gp A3 A5 c3 c5 m _ (Kd.R_reads' hHeld.rx).2.2 (Kd.R_reads' hHeld.rx).2.1 G7.out D7.out HN3.out).mono ?_
  rintro e w14 ⟨rfl, hb⟩
  refine ⟨_, rfl, ?_⟩
  have B14 := Lib.hid (below_step B13.out hb)
  clear I13
  have I14 := Lib.hid (hHeld.below hb)
  clear hb hHeld G7
  refine hK.out _ _ I14.out (fun hHeld => ?_)
  clear hK K
  refine norm_ (a' := ?_) ?_ ?_
  rotate_left
  · show Act.put _ (some 50) _ = _
    simp only [Act.put, List.setIfInBounds_toArray, List.set_cons_zero, List.set_cons_succ, i64_w, i32_w]
    rfl
  refine pure_ (i := 4) (N := some 51) (v := ?_) (a' := ?_) #[true, true, true, true, true] rfl rfl (by kernel_rfl) (fun _ _ _ h => h) (Or.inl ⟨by rfl, ?_⟩) ?_ ?_
  rotate_left
  · intro w'
    go_simp
    with_reducible rfl
  rotate_left
  · simp only [Act.put, List.setIfInBounds_toArray, List.set_cons_zero, List.set_cons_succ, i64_w, i32_w]
    rfl
  refine done_ (by kernel_rfl) ?_
  clear hHeld
  have q8 := loadF I14.out.k8 HX.out HM.out
  go_wp2_with (first
    | (go_at_call 19
       with_reducible refine (markFaceR ws HX.out sp gp (fun k => w4.heap.size ≤ k ∧ k < w5.heap.size) A3 c3 m w _ B14.out I14.out.rx HN3.out kx HKX.out).mono ?_
       rintro e w15 ⟨rfl, hR, hb, hk⟩
       have B15 := Lib.hid hb
       have I15 := Lib.hid (I14.out.markX hk hR)
       clear hR hb hk q8 I14
       have q9 := loadF I15.out.k9 HRX.out HM.out
       have q10 := loadF I15.out.k6 HRX.out HM.out)
    | (go_at_call 12
       with_reducible refine (eqFaceC rw HRX.out rs rg Bg Bw dg dw rl _ (Kd.R_reads' I15.out.rg).2.2 (Kd.R_reads' I15.out.rg).2.1 (Kd.R_reads' I15.out.rw).2.2 (Kd.R_reads' I15.out.rw).2.1 HRL.out).mono ?_
       rintro e w16 ⟨rfl, hb⟩
       have B16 := Lib.hid (below_step B15.out hb)
       have I16 := Lib.hid (I15.out.below hb)
       clear hb I15 q9 q10
       have q9 := loadF I16.out.k9 HRX.out HM.out)
    | (go_at_call 19
       with_reducible refine (markFaceR rw HRX.out rs rg (fun k => wr.heap.size ≤ k ∧ k < w8.heap.size ∧ k ≠ g9) Bg dg rl w _ B16.out I16.out.rg HRL.out kg HKG.out).mono ?_
       rintro e w17 ⟨rfl, hR, hb, hk⟩
       have B17 := Lib.hid hb
       have I17 := Lib.hid (I16.out.markG hk hR)
       clear hR hb hk q9 I16
       have q9 := loadF I17.out.k9 HRX.out HM.out)
    | (go_at_call 20
       with_reducible refine (heldFaceR rw HRX.out rs rg Bg rl.length dg _ _ _ I17.out.rg HRL.out kg HKG.out).mono ?_
       rintro e w18 ⟨rfl, hb⟩
       have B18 := Lib.hid (below_step B17.out hb)
       have I18 := Lib.hid (I17.out.below hb)
       clear hb I17 q9))
  refine start_ (n := 11) (S := fun w' => Below w18.drew.heap.size w18.drew w') (ds := []) #[false, false, false, false, false, false, false, false, false, false, false] (by kernel_rfl) rfl rfl (Below.refl _ _) (fun hHeld => ?_)
  have BQ := Lib.hid (below_drew1 B18.out)
  have IT := Lib.hid (I18.out.below (below_drew1 (Below.refl w18.heap.size w18)))
  have ST := Lib.hid (show w.heap.size ≤ w18.drew.heap.size from BQ.out.size)
  clear I18 B18
  generalize w18.drew = wt at BQ IT ST hHeld ⊢
  refine take_ (i := 0) (N := some 80) (v := ?_) (a' := ?_) #[true, false, false, false, false, false, false, false, false, false, false] rfl rfl (by kernel_rfl) (fun _ _ _ h => h) (Or.inl ⟨by rfl, ?_⟩) hHeld ?_ ?_
  rotate_left
  · rintro w' s
    have q := loadF ((s.block _ (blk_lt IT.out.k0)).trans IT.out.k0) HX.out HM.out
    go_simp
    with_reducible rfl
  rotate_left
  · simp only [Act.put, List.setIfInBounds_toArray, List.set_cons_zero, List.set_cons_succ, i64_w, i32_w]
    rfl
  refine take_ (i := 2) (N := some 82) (v := ?_) (a' := ?_) #[true, false, true, false, false, false, false, false, false, false, false] rfl rfl (by kernel_rfl) (fun _ _ _ h => h) (Or.inl ⟨by rfl, ?_⟩) hHeld ?_ ?_
  rotate_left
  · rintro w' s
    obtain ⟨q0, q1, q2⟩ := pair_at IT.out.k1 s
    go_simp
    with_reducible rfl
  rotate_left
  · simp only [Act.put, List.setIfInBounds_toArray, List.set_cons_zero, List.set_cons_succ, i64_w, i32_w]
    rfl
  refine join_ (σ := Value × Nat × Option Addr × Nat) 2 #[true, true, true, true, true, true, true, true, true, false, false] (fun s_ => [(81, s_.1), (83, .agg #[.int .u8 q.f0, .int .u8 q.f1, .int .i8 q.f2]), (84, .tuple #[.agg (FV rw rs rg (.slice s_.2.2.1 rl.length s_.2.2.2)), .int .i64 code]), (79, .tuple #[.agg (FV rw rs rg (.slice s_.2.2.1 rl.length s_.2.2.2)), .int .i64 code]), (85, .agg (FV rw rs rg (.slice s_.2.2.1 rl.length s_.2.2.2))), (86, .int .i64 code), (14, .pointer (some ⟨s_.2.1, 0, none⟩))]) (fun s_ w' => Below wt.heap.size wt w' ∧ wt.heap.size ≤ s_.2.1 ∧ w'.heap[s_.2.1]? = some (.cells ZF U (0, 0)) ∧ Kd.R k46 46 w' w.heap.size (fun k => wt.heap.size ≤ k ∧ k ≠ s_.2.1) (.slice s_.2.2.1 rl.length s_.2.2.2) rl) ?_ ?_
  rotate_left
  · intro hCont
    refine two_ (i := 1) (j := 8) (Ni := some 81) (Nj := some 14) #[true, true, true, false, false, false, false, false, false, false, false] #[true, false, true, false, false, false, false, false, true, false, false] rfl rfl rfl rfl (by kernel_rfl) (by decide) (by decide) (fun K hK => ?_) (fun K hK => ?_)
    · skip
      refine goes_ Try.func10 (by kernel_rfl) rfl #[.agg (FV ws sp gp (.slice A l.length c))] (by rfl) rfl rfl (by (try simp only [List.map_toArray, List.map_cons, List.map_nil]); first | done | rfl) ?_
      with_reducible refine (toFaceM ws HX.out sp gp A c l m HP.out _ (Kd.C_below HR.out (below_step BQ.out hHeld)) HC.out HN1.out).mono ?_
      rintro e u15 ⟨A2, c2, rfl, hC, hc, hb⟩
      refine ⟨_, rfl, ?_⟩
      have G2 := Lib.hid hC
      have D2 := Lib.hid hc
      clear hC hc
      have hS_ := below_step hHeld hb
      clear hb hHeld
      refine hK.out _ _ hS_ (fun hHeld => ?_)
      clear hK K hS_
      refine norm_ (a' := ?_) ?_ ?_
      rotate_left
      · show Act.put _ (some 81) _ = _
        simp only [Act.put, List.setIfInBounds_toArray, List.set_cons_zero, List.set_cons_succ, i64_w, i32_w]
        rfl
      refine two_ (i := 3) (j := 8) (Ni := some 83) (Nj := some 14) #[true, true, true, true, false, false, false, false, false, false, false] #[true, true, true, false, false, false, false, false, true, false, false] rfl rfl rfl rfl (by kernel_rfl) (by decide) (by decide) (fun K hK => ?_) (fun K hK => ?_)
      · skip
        refine goes_ Try.func22 (by kernel_rfl) rfl #[.agg #[.int .u8 q.f0, .int .u8 q.f1, .int .i8 q.f2]] (by rfl) rfl rfl (by (try simp only [List.map_toArray, List.map_cons, List.map_nil]); first | done | rfl) ?_
        with_reducible refine (toPairC q _).mono ?_
        rintro e u16 ⟨rfl, hb⟩
        refine ⟨_, rfl, ?_⟩
        have G2 := Lib.hid (Kd.C_below G2.out hb)
        have hS_ := below_step hHeld hb
        clear hb hHeld
        refine hK.out _ _ hS_ (fun hHeld => ?_)
        clear hK K hS_
        refine norm_ (a' := ?_) ?_ ?_
        rotate_left
        · show Act.put _ (some 83) _ = _
          simp only [Act.put, List.setIfInBounds_toArray, List.set_cons_zero, List.set_cons_succ, i64_w, i32_w]
          rfl
        refine two_ (i := 4) (j := 8) (Ni := some 84) (Nj := some 14) #[true, true, true, true, true, false, false, false, false, false, false] #[true, true, true, true, false, false, false, false, true, false, false] rfl rfl rfl rfl (by kernel_rfl) (by decide) (by decide) (fun K hK => ?_) (fun K hK => ?_)
        · skip
          refine goes_ Try.func23 (by kernel_rfl) rfl #[.agg (FV ws sp gp (.slice A2 m.length c2)), .agg #[.int .u8 q.f0, .int .u8 q.f1, .int .i8 q.f2]] (by rfl) rfl rfl (by (try simp only [List.map_toArray, List.map_cons, List.map_nil]); first | done | rfl) ?_
          with_reducible refine (implWithD ws HX.out sp gp A2 c2 m q HQ.out _ G2.out D2.out HN3.out HFT.out rw rs rg rl code HLR.out).mono ?_
          rintro e u17 ⟨Bw2, dw2, rfl, hR, hb⟩
          refine ⟨_, rfl, ?_⟩
          have G2 := Lib.hid (Kd.C_below G2.out hb)
          have R3 := Lib.hid (Kd.R_lower (Kd.R_mono (Kd.R_bound hR) (fun k hk => show wt.heap.size ≤ k ∧ k < u17.heap.size from ⟨by have h1 := hk.2.1; have h2 := hHeld.size; omega, hk.2.2.1⟩)) (show w.heap.size ≤ u16.heap.size by have h1 := hHeld.size; have h2 := ST.out; omega))
          clear hR
          have hS_ := below_step hHeld hb
          clear hb hHeld
          refine hK.out _ _ hS_ (fun hHeld => ?_)
          clear hK K hS_
          refine norm_ (a' := ?_) ?_ ?_
          rotate_left
          · show Act.put _ (some 84) _ = _
            simp only [Act.put, List.setIfInBounds_toArray, List.set_cons_zero, List.set_cons_succ, i64_w, i32_w]
            rfl
          refine pure_ (i := 5) (N := some 79) (v := ?_) (a' := ?_) #[true, true, true, true, true, true, false, false, false, false, false] rfl rfl (by kernel_rfl) (fun _ _ _ h => h) (Or.inl ⟨by rfl, ?_⟩) ?_ ?_
          rotate_left
          · intro w'
            go_simp
            with_reducible rfl
          rotate_left
          · simp only [Act.put, List.setIfInBounds_toArray, List.set_cons_zero, List.set_cons_succ, i64_w, i32_w]
            rfl
          refine pure_ (i := 6) (N := some 85) (v := ?_) (a' := ?_) #[true, true, true, true, true, true, true, false, false, false, false] rfl rfl (by kernel_rfl) (fun _ _ _ h => h) (Or.inl ⟨by rfl, ?_⟩) ?_ ?_
          rotate_left
          · intro w'
            go_simp
            with_reducible rfl
          rotate_left
          · simp only [Act.put, List.setIfInBounds_toArray, List.set_cons_zero, List.set_cons_succ, i64_w, i32_w]
            rfl
          refine pure_ (i := 7) (N := some 86) (v := ?_) (a' := ?_) #[true, true, true, true, true, true, true, true, false, false, false] rfl rfl (by kernel_rfl) (fun _ _ _ h => h) (Or.inl ⟨by rfl, ?_⟩) ?_ ?_
          rotate_left
          · intro w'
            go_simp
            with_reducible rfl
          rotate_left
          · simp only [Act.put, List.setIfInBounds_toArray, List.set_cons_zero, List.set_cons_succ, i64_w, i32_w]
            rfl
          refine one_ (i := 8) (N := some 14) #[true, true, true, true, true, true, true, true, true, false, false] rfl rfl (by kernel_rfl) (by decide) (fun K hK => ?_)
          refine value_ (w1 := ?_) (v := ?_) (by rfl) rfl ?_ ?_
          rotate_left 2
          · go_simp
            constructor
            · rfl
            · rfl
          have hb := below_alloc (Below.refl u17.heap.size u17) (.cells ZF U)
          have G2 := Lib.hid (Kd.C_below G2.out hb)
          have R3 := Lib.hid (Kd.R_below R3.out hb)
          have R3 := Lib.hid (Kd.R_mono R3.out (fun k hk => show wt.heap.size ≤ k ∧ k ≠ u17.heap.size from ⟨hk.1, Nat.ne_of_lt hk.2⟩))
          have HG := Lib.hid (show wt.heap.size ≤ u17.heap.size from hHeld.size)
          have HGL := Lib.hid (show u17.heap.size < (u17.alloc (.cells ZF U)).heap.size by simp)
          have GA := Lib.hid (heap_alloc_new u17 (.cells ZF U))
          have hS_ := below_step hHeld hb
          clear hb hHeld
          refine hK.out _ _ hS_ (fun hHeld => ?_)
          clear hK K hS_
          refine norm_ (a' := ?_) ?_ ?_
          rotate_left
          · show Act.put _ (some 14) _ = _
            simp only [Act.put, List.setIfInBounds_toArray, List.set_cons_zero, List.set_cons_succ, i64_w, i32_w]
            rfl
          exact norm_ (by simp only [putAll, Act.put, List.setIfInBounds_toArray, List.set_cons_zero, List.set_cons_succ]) (hCont (.agg (FV ws sp gp (.slice A2 m.length c2)), u17.heap.size, _, _) _ ⟨hHeld, HG.out, GA.out, R3.out⟩)
        · skip
          refine value_ (w1 := ?_) (v := ?_) (by rfl) rfl ?_ ?_
          rotate_left 2
          · go_simp
            constructor
            · rfl
            · rfl
          have hb := below_alloc (Below.refl u16.heap.size u16) (.cells ZF U)
          have G2 := Lib.hid (Kd.C_below G2.out hb)
          have HG := Lib.hid (show wt.heap.size ≤ u16.heap.size from hHeld.size)
          have HGL := Lib.hid (show u16.heap.size < (u16.alloc (.cells ZF U)).heap.size by simp)
          have GA := Lib.hid (heap_alloc_new u16 (.cells ZF U))
          have hS_ := below_step hHeld hb
          clear hb hHeld
          refine hK.out _ _ hS_ (fun hHeld => ?_)
          clear hK K hS_
          refine norm_ (a' := ?_) ?_ ?_
          rotate_left
          · show Act.put _ (some 14) _ = _
            simp only [Act.put, List.setIfInBounds_toArray, List.set_cons_zero, List.set_cons_succ, i64_w, i32_w]
            rfl
          refine one_ (i := 4) (N := some 84) #[true, true, true, true, true, false, false, false, true, false, false] rfl rfl (by kernel_rfl) (by decide) (fun K hK => ?_)
          refine goes_ Try.func23 (by kernel_rfl) rfl #[.agg (FV ws sp gp (.slice A2 m.length c2)), .agg #[.int .u8 q.f0, .int .u8 q.f1, .int .i8 q.f2]] (by rfl) rfl rfl (by (try simp only [List.map_toArray, List.map_cons, List.map_nil]); first | done | rfl) ?_
          with_reducible refine (implWithD ws HX.out sp gp A2 c2 m q HQ.out _ G2.out D2.out HN3.out HFT.out rw rs rg rl code HLR.out).mono ?_
          rintro e u18 ⟨Bw2, dw2, rfl, hR, hb⟩
          refine ⟨_, rfl, ?_⟩
          have G2 := Lib.hid (Kd.C_below G2.out hb)
          have GA := Lib.hid ((hb.block _ (blk_lt GA.out)).trans GA.out)
          have R3 := Lib.hid (Kd.R_lower (Kd.R_mono (Kd.R_bound hR) (fun k hk => show wt.heap.size ≤ k ∧ k ≠ u16.heap.size from ⟨by have h1 := hk.2.1; have h2 := hHeld.size; omega, by have h1 := hk.2.1; have h2 := HGL.out; omega⟩)) (show w.heap.size ≤ (u16.alloc (.cells ZF U)).heap.size by have h1 := hHeld.size; have h2 := ST.out; omega))
          clear hR
          have HGL := Lib.hid (Nat.lt_of_lt_of_le HGL.out hb.size)
          have hS_ := below_step hHeld hb
          clear hb hHeld
          refine hK.out _ _ hS_ (fun hHeld => ?_)
          clear hK K hS_
          refine norm_ (a' := ?_) ?_ ?_
          rotate_left
          · show Act.put _ (some 84) _ = _
            simp only [Act.put, List.setIfInBounds_toArray, List.set_cons_zero, List.set_cons_succ, i64_w, i32_w]
            rfl
          refine pure_ (i := 5) (N := some 79) (v := ?_) (a' := ?_) #[true, true, true, true, true, true, false, false, true, false, false] rfl rfl (by kernel_rfl) (fun _ _ _ h => h) (Or.inl ⟨by rfl, ?_⟩) ?_ ?_
          rotate_left
          · intro w'
            go_simp
            with_reducible rfl
          rotate_left
          · simp only [Act.put, List.setIfInBounds_toArray, List.set_cons_zero, List.set_cons_succ, i64_w, i32_w]
            rfl
          refine pure_ (i := 6) (N := some 85) (v := ?_) (a' := ?_) #[true, true, true, true, true, true, true, false, true, false, false] rfl rfl (by kernel_rfl) (fun _ _ _ h => h) (Or.inl ⟨by rfl, ?_⟩) ?_ ?_
          rotate_left
          · intro w'
            go_simp
            with_reducible rfl
          rotate_left
          · simp only [Act.put, List.setIfInBounds_toArray, List.set_cons_zero, List.set_cons_succ, i64_w, i32_w]
            rfl
          refine pure_ (i := 7) (N := some 86) (v := ?_) (a' := ?_) #[true, true, true, true, true, true, true, true, true, false, false] rfl rfl (by kernel_rfl) (fun _ _ _ h => h) (Or.inl ⟨by rfl, ?_⟩) ?_ ?_
          rotate_left
          · intro w'
            go_simp
            with_reducible rfl
          rotate_left
          · simp only [Act.put, List.setIfInBounds_toArray, List.set_cons_zero, List.set_cons_succ, i64_w, i32_w]
            rfl
          exact norm_ (by simp only [putAll, Act.put, List.setIfInBounds_toArray, List.set_cons_zero, List.set_cons_succ]) (hCont (.agg (FV ws sp gp (.slice A2 m.length c2)), u16.heap.size, _, _) _ ⟨hHeld, HG.out, GA.out, R3.out⟩)
      · skip
        refine value_ (w1 := ?_) (v := ?_) (by rfl) rfl ?_ ?_
        rotate_left 2
        · go_simp
          constructor
          · rfl
          · rfl
        have hb := below_alloc (Below.refl u15.heap.size u15) (.cells ZF U)
        have G2 := Lib.hid (Kd.C_below G2.out hb)
        have HG := Lib.hid (show wt.heap.size ≤ u15.heap.size from hHeld.size)
        have HGL := Lib.hid (show u15.heap.size < (u15.alloc (.cells ZF U)).heap.size by simp)
        have GA := Lib.hid (heap_alloc_new u15 (.cells ZF U))
        have hS_ := below_step hHeld hb
        clear hb hHeld
        refine hK.out _ _ hS_ (fun hHeld => ?_)
        clear hK K hS_
        refine norm_ (a' := ?_) ?_ ?_
        rotate_left
        · show Act.put _ (some 14) _ = _
          simp only [Act.put, List.setIfInBounds_toArray, List.set_cons_zero, List.set_cons_succ, i64_w, i32_w]
          rfl
        refine one_ (i := 3) (N := some 83) #[true, true, true, true, false, false, false, false, true, false, false] rfl rfl (by kernel_rfl) (by decide) (fun K hK => ?_)
        refine goes_ Try.func22 (by kernel_rfl) rfl #[.agg #[.int .u8 q.f0, .int .u8 q.f1, .int .i8 q.f2]] (by rfl) rfl rfl (by (try simp only [List.map_toArray, List.map_cons, List.map_nil]); first | done | rfl) ?_
        with_reducible refine (toPairC q _).mono ?_
        rintro e u19 ⟨rfl, hb⟩
        refine ⟨_, rfl, ?_⟩
        have G2 := Lib.hid (Kd.C_below G2.out hb)
        have GA := Lib.hid ((hb.block _ (blk_lt GA.out)).trans GA.out)
        have HGL := Lib.hid (Nat.lt_of_lt_of_le HGL.out hb.size)
        have hS_ := below_step hHeld hb
        clear hb hHeld
        refine hK.out _ _ hS_ (fun hHeld => ?_)
        clear hK K hS_
        refine norm_ (a' := ?_) ?_ ?_
        rotate_left
        · show Act.put _ (some 83) _ = _
          simp only [Act.put, List.setIfInBounds_toArray, List.set_cons_zero, List.set_cons_succ, i64_w, i32_w]
          rfl
        refine one_ (i := 4) (N := some 84) #[true, true, true, true, true, false, false, false, true, false, false] rfl rfl (by kernel_rfl) (by decide) (fun K hK => ?_)
        refine goes_ Try.func23 (by kernel_rfl) rfl #[.agg (FV ws sp gp (.slice A2 m.length c2)), .agg #[.int .u8 q.f0, .int .u8 q.f1, .int .i8 q.f2]] (by rfl) rfl rfl (by (try simp only [List.map_toArray, List.map_cons, List.map_nil]); first | done | rfl) ?_
        with_reducible refine (implWithD ws HX.out sp gp A2 c2 m q HQ.out _ G2.out D2.out HN3.out HFT.out rw rs rg rl code HLR.out).mono ?_
        rintro e u20 ⟨Bw2, dw2, rfl, hR, hb⟩
        refine ⟨_, rfl, ?_⟩
        have G2 := Lib.hid (Kd.C_below G2.out hb)
        have GA := Lib.hid ((hb.block _ (blk_lt GA.out)).trans GA.out)
        have R3 := Lib.hid (Kd.R_lower (Kd.R_mono (Kd.R_bound hR) (fun k hk => show wt.heap.size ≤ k ∧ k ≠ u15.heap.size from ⟨by have h1 := hk.2.1; have h2 := hHeld.size; omega, by have h1 := hk.2.1; have h2 := HGL.out; omega⟩)) (show w.heap.size ≤ u19.heap.size by have h1 := hHeld.size; have h2 := ST.out; omega))
        clear hR
        have HGL := Lib.hid (Nat.lt_of_lt_of_le HGL.out hb.size)
        have hS_ := below_step hHeld hb
        clear hb hHeld
        refine hK.out _ _ hS_ (fun hHeld => ?_)
        clear hK K hS_
        refine norm_ (a' := ?_) ?_ ?_
        rotate_left
        · show Act.put _ (some 84) _ = _
          simp only [Act.put, List.setIfInBounds_toArray, List.set_cons_zero, List.set_cons_succ, i64_w, i32_w]
          rfl
        refine pure_ (i := 5) (N := some 79) (v := ?_) (a' := ?_) #[true, true, true, true, true, true, false, false, true, false, false] rfl rfl (by kernel_rfl) (fun _ _ _ h => h) (Or.inl ⟨by rfl, ?_⟩) ?_ ?_
        rotate_left
        · intro w'
          go_simp
          with_reducible rfl
        rotate_left
        · simp only [Act.put, List.setIfInBounds_toArray, List.set_cons_zero, List.set_cons_succ, i64_w, i32_w]
          rfl
        refine pure_ (i := 6) (N := some 85) (v := ?_) (a' := ?_) #[true, true, true, true, true, true, true, false, true, false, false] rfl rfl (by kernel_rfl) (fun _ _ _ h => h) (Or.inl ⟨by rfl, ?_⟩) ?_ ?_
        rotate_left
        · intro w'
          go_simp
          with_reducible rfl
        rotate_left
        · simp only [Act.put, List.setIfInBounds_toArray, List.set_cons_zero, List.set_cons_succ, i64_w, i32_w]
          rfl
        refine pure_ (i := 7) (N := some 86) (v := ?_) (a' := ?_) #[true, true, true, true, true, true, true, true, true, false, false] rfl rfl (by kernel_rfl) (fun _ _ _ h => h) (Or.inl ⟨by rfl, ?_⟩) ?_ ?_
        rotate_left
        · intro w'
          go_simp
          with_reducible rfl
        rotate_left
        · simp only [Act.put, List.setIfInBounds_toArray, List.set_cons_zero, List.set_cons_succ, i64_w, i32_w]
          rfl
        exact norm_ (by simp only [putAll, Act.put, List.setIfInBounds_toArray, List.set_cons_zero, List.set_cons_succ]) (hCont (.agg (FV ws sp gp (.slice A2 m.length c2)), u15.heap.size, _, _) _ ⟨hHeld, HG.out, GA.out, R3.out⟩)
    · skip
      refine value_ (w1 := ?_) (v := ?_) (by rfl) rfl ?_ ?_
      rotate_left 2
      · go_simp
        constructor
        · rfl
        · rfl
      have hb := below_alloc (Below.refl wt.heap.size wt) (.cells ZF U)
      have HG := Lib.hid (show wt.heap.size ≤ wt.heap.size from hHeld.size)
      have HGL := Lib.hid (show wt.heap.size < (wt.alloc (.cells ZF U)).heap.size by simp)
      have GA := Lib.hid (heap_alloc_new wt (.cells ZF U))
      have hS_ := below_step hHeld hb
      clear hb hHeld
      refine hK.out _ _ hS_ (fun hHeld => ?_)
      clear hK K hS_
      refine norm_ (a' := ?_) ?_ ?_
      rotate_left
      · show Act.put _ (some 14) _ = _
        simp only [Act.put, List.setIfInBounds_toArray, List.set_cons_zero, List.set_cons_succ, i64_w, i32_w]
        rfl
      refine one_ (i := 1) (N := some 81) #[true, true, true, false, false, false, false, false, true, false, false] rfl rfl (by kernel_rfl) (by decide) (fun K hK => ?_)
      refine goes_ Try.func10 (by kernel_rfl) rfl #[.agg (FV ws sp gp (.slice A l.length c))] (by rfl) rfl rfl (by (try simp only [List.map_toArray, List.map_cons, List.map_nil]); first | done | rfl) ?_
      with_reducible refine (toFaceM ws HX.out sp gp A c l m HP.out _ (Kd.C_below HR.out (below_step BQ.out hHeld)) HC.out HN1.out).mono ?_
      rintro e u21 ⟨A2, c2, rfl, hC, hc, hb⟩
      refine ⟨_, rfl, ?_⟩
      have GA := Lib.hid ((hb.block _ (blk_lt GA.out)).trans GA.out)
      have G2 := Lib.hid hC
      have D2 := Lib.hid hc
      clear hC hc
      have HGL := Lib.hid (Nat.lt_of_lt_of_le HGL.out hb.size)
      have hS_ := below_step hHeld hb
      clear hb hHeld
      refine hK.out _ _ hS_ (fun hHeld => ?_)
      clear hK K hS_
      refine norm_ (a' := ?_) ?_ ?_
      rotate_left
      · show Act.put _ (some 81) _ = _
        simp only [Act.put, List.setIfInBounds_toArray, List.set_cons_zero, List.set_cons_succ, i64_w, i32_w]
        rfl
      refine one_ (i := 3) (N := some 83) #[true, true, true, true, false, false, false, false, true, false, false] rfl rfl (by kernel_rfl) (by decide) (fun K hK => ?_)
      refine goes_ Try.func22 (by kernel_rfl) rfl #[.agg #[.int .u8 q.f0, .int .u8 q.f1, .int .i8 q.f2]] (by rfl) rfl rfl (by (try simp only [List.map_toArray, List.map_cons, List.map_nil]); first | done | rfl) ?_
      with_reducible refine (toPairC q _).mono ?_
      rintro e u22 ⟨rfl, hb⟩
      refine ⟨_, rfl, ?_⟩
      have G2 := Lib.hid (Kd.C_below G2.out hb)
      have GA := Lib.hid ((hb.block _ (blk_lt GA.out)).trans GA.out)
      have HGL := Lib.hid (Nat.lt_of_lt_of_le HGL.out hb.size)
      have hS_ := below_step hHeld hb
      clear hb hHeld
      refine hK.out _ _ hS_ (fun hHeld => ?_)
      clear hK K hS_
      refine norm_ (a' := ?_) ?_ ?_
      rotate_left
      · show Act.put _ (some 83) _ = _
        simp only [Act.put, List.setIfInBounds_toArray, List.set_cons_zero, List.set_cons_succ, i64_w, i32_w]
        rfl
      refine one_ (i := 4) (N := some 84) #[true, true, true, true, true, false, false, false, true, false, false] rfl rfl (by kernel_rfl) (by decide) (fun K hK => ?_)
      refine goes_ Try.func23 (by kernel_rfl) rfl #[.agg (FV ws sp gp (.slice A2 m.length c2)), .agg #[.int .u8 q.f0, .int .u8 q.f1, .int .i8 q.f2]] (by rfl) rfl rfl (by (try simp only [List.map_toArray, List.map_cons, List.map_nil]); first | done | rfl) ?_
      with_reducible refine (implWithD ws HX.out sp gp A2 c2 m q HQ.out _ G2.out D2.out HN3.out HFT.out rw rs rg rl code HLR.out).mono ?_
      rintro e u23 ⟨Bw2, dw2, rfl, hR, hb⟩
      refine ⟨_, rfl, ?_⟩
      have G2 := Lib.hid (Kd.C_below G2.out hb)
      have GA := Lib.hid ((hb.block _ (blk_lt GA.out)).trans GA.out)
      have R3 := Lib.hid (Kd.R_lower (Kd.R_mono (Kd.R_bound hR) (fun k hk => show wt.heap.size ≤ k ∧ k ≠ wt.heap.size from ⟨by have h1 := hk.2.1; have h2 := hHeld.size; omega, by have h1 := hk.2.1; have h2 := HGL.out; omega⟩)) (show w.heap.size ≤ u22.heap.size by have h1 := hHeld.size; have h2 := ST.out; omega))
      clear hR
      have HGL := Lib.hid (Nat.lt_of_lt_of_le HGL.out hb.size)
      have hS_ := below_step hHeld hb
      clear hb hHeld
      refine hK.out _ _ hS_ (fun hHeld => ?_)
      clear hK K hS_
      refine norm_ (a' := ?_) ?_ ?_
      rotate_left
      · show Act.put _ (some 84) _ = _
        simp only [Act.put, List.setIfInBounds_toArray, List.set_cons_zero, List.set_cons_succ, i64_w, i32_w]
        rfl
      refine pure_ (i := 5) (N := some 79) (v := ?_) (a' := ?_) #[true, true, true, true, true, true, false, false, true, false, false] rfl rfl (by kernel_rfl) (fun _ _ _ h => h) (Or.inl ⟨by rfl, ?_⟩) ?_ ?_
      rotate_left
      · intro w'
        go_simp
        with_reducible rfl
      rotate_left
      · simp only [Act.put, List.setIfInBounds_toArray, List.set_cons_zero, List.set_cons_succ, i64_w, i32_w]
        rfl
      refine pure_ (i := 6) (N := some 85) (v := ?_) (a' := ?_) #[true, true, true, true, true, true, true, false, true, false, false] rfl rfl (by kernel_rfl) (fun _ _ _ h => h) (Or.inl ⟨by rfl, ?_⟩) ?_ ?_
      rotate_left
      · intro w'
        go_simp
        with_reducible rfl
      rotate_left
      · simp only [Act.put, List.setIfInBounds_toArray, List.set_cons_zero, List.set_cons_succ, i64_w, i32_w]
        rfl
      refine pure_ (i := 7) (N := some 86) (v := ?_) (a' := ?_) #[true, true, true, true, true, true, true, true, true, false, false] rfl rfl (by kernel_rfl) (fun _ _ _ h => h) (Or.inl ⟨by rfl, ?_⟩) ?_ ?_
      rotate_left
      · intro w'
        go_simp
        with_reducible rfl
      rotate_left
      · simp only [Act.put, List.setIfInBounds_toArray, List.set_cons_zero, List.set_cons_succ, i64_w, i32_w]
        rfl
      exact norm_ (by simp only [putAll, Act.put, List.setIfInBounds_toArray, List.set_cons_zero, List.set_cons_succ]) (hCont (.agg (FV ws sp gp (.slice A2 m.length c2)), wt.heap.size, _, _) _ ⟨hHeld, HG.out, GA.out, R3.out⟩)
  rintro ⟨v_, g14, Bh, dh⟩ w20 ⟨hHeld, hgl, hga, hR⟩
  have HGL := Lib.hid (show wt.heap.size ≤ g14 from hgl)
  have HGA := Lib.hid (show w20.heap[g14]? = some (.cells ZF U (0, 0)) from hga)
  have HRR := Lib.hid (show Kd.R k46 46 w20 w.heap.size (fun k => wt.heap.size ≤ k ∧ k ≠ g14) (.slice Bh rl.length dh) rl from hR)
  clear hgl hga hR
  refine norm_ (a' := ?_) ?_ ?_
  rotate_left
  · simp only [putAll, Act.put, List.setIfInBounds_toArray, List.set_cons_zero, List.set_cons_succ]
    rfl
  refine one_ (i := 9) (N := none) #[true, true, true, true, true, true, true, true, true, true, false] rfl rfl (by kernel_rfl) (by decide) (fun K hK => ?_)
  have hst : (storeCells ⟨g14, 0, none⟩ (FV rw rs rg (.slice Bh rl.length dh)).toList 0).run Try.prog w20 = .ok () (w20.setRow g14 (FV rw rs rg (.slice Bh rl.length dh))) := storeF HGA.out Z26_len HRX.out
  refine skip_ (w1 := ?wn_g14) (by rfl) rfl ?hrun_g14 ?_
  case hrun_g14 =>
    go_simp
    with_reducible rfl
  refine hK.out _ _ (below_setRow hHeld HGL.out _) (fun hHeld => ?_)
  clear hK K hst
  refine pure_ (i := 10) (N := some 15) (v := ?_) (a' := ?_) #[true, true, true, true, true, true, true, true, true, true, true] rfl rfl (by kernel_rfl) (fun _ _ _ h => h) (Or.inl ⟨by rfl, ?_⟩) ?_ ?_
  rotate_left
  · intro w'
    go_simp
    with_reducible rfl
  rotate_left
  · simp only [Act.put, List.setIfInBounds_toArray, List.set_cons_zero, List.set_cons_succ, i64_w, i32_w]
    rfl
  refine done_ (by kernel_rfl) ?_
  have RS := Lib.hid (Kd.R_step HRR.out (fun k hk _ => setRow_other w20 g14 k (FV rw rs rg (.slice Bh rl.length dh)) hk.2))
  have CS := Lib.hid (setRow_heap w20 g14 _ (FV rw rs rg (.slice Bh rl.length dh)) U (0, 0) HGA.out)
  obtain ⟨w21, hww⟩ : ∃ W, W = w20.setRow g14 (FV rw rs rg (.slice Bh rl.length dh)) := ⟨_, rfl⟩
  rw [← hww] at hHeld RS CS ⊢
  clear hww HRR HGA
  have B21 := Lib.hid (below_step BQ.out hHeld)
  have I21 := Lib.hid (IT.out.below hHeld)
  have C21 := Lib.hid CS.out
  have G21 := Lib.hid (Kd.R_reads' RS.out).2.2
  have D20 := Lib.hid (Kd.R_reads' RS.out).2.1
  clear hHeld RS CS BQ IT
  have q14 := loadF C21.out HRX.out HM.out
  have q10 := loadF I21.out.k6 HRX.out HM.out
  go_wp2_with (first
    | (go_at_call 12
       with_reducible refine (eqFaceC rw HRX.out rs rg Bh Bw dh dw rl _ G21.out D20.out (Kd.R_reads' I21.out.rw).2.2 (Kd.R_reads' I21.out.rw).2.1 HRL.out).mono ?_
       rintro e w22 ⟨rfl, hb⟩
       have B22 := Lib.hid (below_step B21.out hb)
       have I22 := Lib.hid (I21.out.below hb)
       clear hb I21 q14 q10
       have q9 := loadF I22.out.k9 HRX.out HM.out)
    | (go_at_call 20
       with_reducible refine (heldFaceR rw HRX.out rs rg Bg rl.length dg _ _ _ I22.out.rg HRL.out kg HKG.out).mono ?_
       rintro e w23 ⟨rfl, hb⟩
       have B23 := Lib.hid (below_step B22.out hb)
       clear hb))
  go_ret
  exact ⟨rfl, B23.out⟩

theorem lawWith (ws : List Int) (hx : ws.length = 26) (sp gp : Int) (A : Option Addr) (c : Nat) (l : List S44) (q : S44) (w : World) (hr : Kd.C k44 w A l.length l) (hc : l.length ≤ c) (hfit : Fit ws sp gp (l.map toPr)) (hq : -128 ≤ q.f2 ∧ q.f2 ≤ 127) :
    Calls Try.prog 7 #[.agg (FV ws sp gp (.slice A l.length c)), .agg #[.int .u8 q.f0, .int .u8 q.f1, .int .i8 q.f2]] w fun e w' => e = .returned (.bool true) ∧ Below w.heap.size w w' := by
  have hl := Kd.C_max hr
  by_cases h1 : (l.length : Int) ≤ 1048576
  · exact lawWithC ws hx sp gp A c l q w hr hc hl h1 hfit hq
  · exact lawWithA ws hx sp gp A c l q w hr hc hl (by omega)
end Go.Proofs.Ytjaamcedgdhilaa.Q
