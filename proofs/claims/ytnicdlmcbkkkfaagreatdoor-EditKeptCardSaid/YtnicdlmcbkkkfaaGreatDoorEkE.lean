/-
  EditKept: tintypelaw37.kept; what holds of it at any world, as a summary of the engine.
-/
import Derived.Test.YtnicdlmcbkkkfaaGreatDoorEkD
import Derived.Test.YtnicdlmcbkkkfaaGreatDoorEng7
namespace Go.Proofs.YtnicdlmcbkkkfaaGreatDoor

section
open Go.RowKit

/-- a deed of a kind, a member, and where to. -/
def deedZ (k m t : Int) : Array Value := #[.int .i64 k, .int .i64 m, .int .i64 0, .int .i64 0, .int .i64 0, .int .i64 0, .slice none 0 0, .slice none 0 0, .int .i64 0, .int .i64 0, .int .i64 0,
  .int .i64 0, .slice none 0 0, .slice none 0 0, .slice none 0 0, .slice none 0 0, .slice none 0 0, .slice none 0 0, .slice none 0 0, .slice none 0 0, .slice none 0 0, .int .i64 0, .int .i64 0, .int .i64 0, .slice none 0 0, .int .i64 t]
theorem deedZ_ok (k m t : Int) : DeedOk (deedZ k m t) k m t := ⟨rfl, fun _ => rfl, fun _ => rfl, fun _ => rfl⟩

set_option maxRecDepth 20000 in
set_option maxHeartbeats 3200000 in
theorem kept37 (k m t : Int) (A : Option Addr) (c : Nat) (want : List Int) (hl : want.length ≤ 3000) (w : World) (h : IntsAt w A want) :
    Calls Tryz.prog 14 #[.int .i64 k, .int .i64 m, .int .i64 t, .slice A want.length c] w fun e w' => e = .returned (.bool (decide (keptD 3 k m t = want))) ∧ Held w w' := by
  obtain ⟨hL, hK, _⟩ := kept_both 3 k m t (deedZ k m t) (deedZ_ok k m t)
  have HC := Lib.hid (fun w' A2 c2 h2 hw => ints_any (keptD 3 k m t) want A2 A c2 c w' h2 (h.keep (w' := w') hw) (by omega) (by omega))
  have HK := Lib.hid hK
  clear hK h
  unfold deedZ at HK
  go_enter Tryz.func14, Tryz.ntmps14
  go_wp2_with fail
  refine (HK.out _).mono ?_
  rintro e w2 ⟨A2, c2, rfl, hd2, hi2, _⟩
  have HI := Lib.hid hi2
  have HD := Lib.hid hd2
  clear hd2 hi2
  go_wp2_with fail
  refine (HC.out _ _ _ HI.out HD.out).mono ?_
  rintro e w3 ⟨rfl, hd3⟩
  have H3 := Lib.hid (HD.out.tr hd3)
  clear hd3
  go_wp2_with fail
  go_ret
  exact ⟨rfl, H3.out⟩

open Eng

theorem orel_held {ρ : Ren} {w w' : World} {L : Eng.Loc} {ob : AObj} (h : ORel ρ w L ob) (hd : Held w w') : ORel ρ w' L ob := by
  have hb : Below w.heap.size w w' := hd
  have key : ∀ x, w.heap[L.block]? = some x → w'.heap[L.block]? = some x := fun x hx => by
    rw [hb.block L.block ?_, hx]
    rcases Nat.lt_or_ge L.block w.heap.size with h | h
    · exact h
    · rw [Array.getElem?_eq_none h] at hx; cases hx
  cases ob with
  | cells c elem opn => obtain ⟨cs, fz, h1, hz, h2⟩ := h; exact ⟨cs, fz, key _ h1, hz, h2⟩
  | map es => obtain ⟨x, y, h1, h2⟩ := h; exact ⟨x, y, key _ h1, h2⟩
  | loop l => obtain ⟨x, h1, h2⟩ := h; exact ⟨x, key _ h1, h2⟩
  | deferred d =>
    cases d with
    | none => exact key _ h
    | some ds => obtain ⟨x, h1, h2⟩ := h; exact ⟨x, key _ h1, h2⟩

theorem hrel_held {ρ : Ren} {h : Heap} {w w' : World} (H : HRel ρ h w) (hd : Held w w') : HRel ρ h w' :=
  ⟨fun o ob ho => by obtain ⟨L, h1, h2⟩ := H.obj o ob ho; exact ⟨L, h1, orel_held h2 hd⟩, H.inj⟩

/-- A CALL THAT ONLY LOOKS, AS A SUMMARY. -/
theorem ret_of_held {P : Program} {f : FuncId} {args : List Value} {h : Heap} {nx : Nat} {b : Bool}
    (C : ∀ (ρ : Ren) (args' : Array Value) (w : World), VRels ρ args args'.toList → HRel ρ h w → Calls P f args' w fun e w' => e = .returned (.bool b) ∧ Held w w') : Ret P f args h nx (.bool b) h nx := by
  intro ρ args' cs w A H _
  obtain ⟨e, w', fr, ⟨rfl, hd⟩, c, hfn, hl⟩ := C ρ args' w A H cs
  obtain ⟨l1, l2, l3, fn, l4, l5⟩ := hl
  have hb : Below w.heap.size w w' := hd
  exact ⟨ρ, fr, w', fn, .bool b, c, l1, l2, l3, ⟨hfn, l4⟩, l5, .bool b, hrel_held H hd, ⟨hb.os, hb.tape, hb.output, hb.size, fun k hk _ => hb.block k hk, fun _ _ h => h, Nat.le_refl _, fun _ _ => rfl⟩⟩

theorem kept_ret (k m t : Int) (o : Nat) (want : List Int) (hl : want.length ≤ 3000) (he : keptD 3 k m t = want) (nx : Nat) :
    Ret Tryz.prog 14 [.int .i64 k, .int .i64 m, .int .i64 t, .slice (some ⟨o, 0, none⟩) want.length want.length] (heapOf [(o, .cells (intsV want) 3 false)]) nx (.bool true) (heapOf [(o, .cells (intsV want) 3 false)]) nx := by
  refine ret_of_held fun ρ args' w A H => ?_
  obtain ⟨L, hL, cs, fz, h1, _, h2, h3, h4, h5⟩ := H.obj o (.cells (intsV want) 3 false) (by unfold heapOf; rw [Tr.get_set, if_pos rfl])
  obtain ⟨l⟩ := args'
  replace A : VRels ρ _ l := A
  cases A with | cons a0 A => ?_
  cases A with | cons a1 A => ?_
  cases A with | cons a2 A => ?_
  cases A with | cons a3 A => ?_
  cases A
  cases a0
  cases a1
  cases a2
  have hA : ∀ {v : Value}, VRel ρ (.slice (some ⟨o, 0, none⟩) want.length want.length) v → v = .slice (some ⟨L.block, 0, none⟩) want.length want.length := by
    intro v hv
    generalize hs : Value.slice (some ⟨o, 0, none⟩) want.length want.length = s at hv
    cases hv <;> try (cases hs; done)
    · rename_i L' h hc hn
      injection hs with e1 e2 e3
      injection e1 with e1
      injection e1 with e1 e4
      subst e1 e2 e3 e4
      rw [hL] at h
      cases h
      rw [(h4 rfl).1]
    all_goals
      injection hs with e1 e2 e3
      exfalso
      unfold openCap at e3
      omega
  rw [hA a3]
  have C := kept37 k m t (some ⟨L.block, 0, none⟩) want.length want hl w (fun hn => ?_)
  · simp only [he, decide_true] at C
    exact C
  · refine ⟨_, rfl, ?_, fun i x hi => ?_⟩
    · rcases Nat.lt_or_ge L.block w.heap.size with h | h
      · exact h
      · rw [Array.getElem?_eq_none h] at h1; cases h1
    · obtain ⟨v', g1, g2⟩ := h5 i (.int .i64 x) (by simp [intsV, hi])
      cases g2
      rw [(h4 rfl).1, Nat.zero_add] at g1
      have e : ((⟨L.block, 0, none⟩ : Addr).add i) = ⟨L.block, i, none⟩ := by unfold Addr.add; split <;> simp_all
      rw [e]
      simp only [World.cell?, h1, g1]
      rfl

theorem kept_ret0 (k m t : Int) (he : keptD 3 k m t = []) (nx : Nat) :
    Ret Tryz.prog 14 [.int .i64 k, .int .i64 m, .int .i64 t, .slice none 0 0] (heapOf []) nx (.bool true) (heapOf []) nx := by
  refine ret_of_held fun ρ args' w A H => ?_
  obtain ⟨l⟩ := args'
  replace A : VRels ρ _ l := A
  cases A with | cons a0 A => ?_
  cases A with | cons a1 A => ?_
  cases A with | cons a2 A => ?_
  cases A with | cons a3 A => ?_
  cases A
  cases a0
  cases a1
  cases a2
  cases a3
  have C := kept37 k m t none 0 [] (by simp) w (IntsAt.none w)
  simp only [he, decide_true] at C
  exact C
end

end Go.Proofs.YtnicdlmcbkkkfaaGreatDoor
