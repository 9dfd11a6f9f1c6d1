/- HitKnown: for the one input (none) the call returns true: the examples, halves of ellipsoids, aspheres, biconics, and errors. Condition: the listed variables start as the program's text lays them. -/
import Derived.Test.YtefmckneohhijaaGreatDoorHKnZ
import Derived.Test.YtefmckneohhijaaGreatDoorHKJ
import Derived.Test.YtefmckneohhijaaGreatDoorRows
import Derived.Test.YtefmckneohhijaaGreatDoorTie
import Derived.Test.YtefmckneohhijaaGreatDoorCards
import Derived.ProofKit
import Derived.LaidMore
import Derived.MakeChecks
import Derived.SevenTiedAt
import Derived.OpenShut
import Derived.Stop.Joined
namespace Go.Proofs.YtefmckneohhijaaGreatDoor
open Go Go.Ex Go.RowKit Go.ChangeShapes Go.WideShapes Go.ChangeAt

set_option maxRecDepth 100000
abbrev laid1 : List (String × DataW Unit) := [("monocle/surface.one", Rows.laid_monocle_surface_one), ("monocle/hit.widths", Rows.laid_monocle_hit_widths)]

theorem gOne : Tryz.prog.globalNamed "monocle/surface.one" = some 2 := by kernel_rfl
theorem tOne : (Tryz.prog.globals[2]?).map (·.type) = some 39 := by kernel_rfl
theorem gWidths : Tryz.prog.globalNamed "monocle/hit.widths" = some 1 := by kernel_rfl
theorem tWidths : (Tryz.prog.globals[1]?).map (·.type) = some 32 := by kernel_rfl
theorem c32 : Tryz.prog.cellsOf 32 = 4 := by kernel_rfl
theorem cSpan : Tryz.prog.cellsOf 39 = 2 := by kernel_rfl
theorem cInt : Tryz.prog.cellsOf 3 = 1 := by kernel_rfl
theorem uSpan : ∃ f0 f1 : Field, Tryz.prog.underlying 39 = some (.struct #[f0, f1]) ∧ f0.offset = 0 ∧ f1.offset = 1 ∧ f0.type = 3 ∧ f1.type = 3 := by
  have h : (match Tryz.prog.underlying 39 with | some (.struct fs) => (match fs.toList with | [f0, f1] => f0.offset.beq 0 && (f1.offset.beq 1 && (f0.type.beq 3 && f1.type.beq 3)) | _ => false) | _ => false) = true := by kernel_rfl
  split at h
  · rename_i fs hfs
    split at h
    · rename_i f0 f1 hl
      simp only [Bool.and_eq_true, Nat.beq_eq] at h
      have hl' : fs = #[f0, f1] := by
        have := congrArg List.toArray hl
        simpa using this
      exact ⟨f0, f1, by rw [hfs, hl'], h.1, h.2.1, h.2.2.1, h.2.2.2⟩
    · cases h
  · cases h

theorem of_laid {W : World} (h : laidMetH Tryz.prog laid1 W) : Laid W := by
  rw [MakeChecks.laidMetH_plain _ _ _ (by kernel_rfl)] at h
  obtain ⟨ps, ⟨g0, t0, cs0, f0, p0, q0, hg0, ht0, hv0, hd0, ⟨g1, t1, cs1, f1, p1, q1, hg1, ht1, hv1, hd1, _, _⟩, _⟩, _, _⟩ := h
  obtain rfl := Option.some.inj (gOne.symm.trans hg0)
  obtain rfl := Option.some.inj (tOne.symm.trans ht0)
  obtain rfl := Option.some.inj (gWidths.symm.trans hg1)
  obtain rfl := Option.some.inj (tWidths.symm.trans ht1)
  have widths : ∃ e fz, W.heap[1]? = some (.cells #[.int .i64 1048576, .int .i64 67108864, .int .i64 2147483648, .int .i64 34359738368] e fz) := by
    obtain ⟨xs, m1, _, hx, hlen, hxl, hel⟩ := DataW.trod_array Tryz.underlying32 hd1
    simp only [World.var?, gWidths, Option.bind_some] at hv1
    split at hv1
    · rename_i cs e fz hb
      cases hv1
      refine ⟨e, fz, ?_⟩
      rw [hb]
      congr 2
      rw [c32] at hlen
      obtain ⟨l⟩ := cs1
      simp only at hlen hel
      match l, hlen with
      | [a, b, c, d], _ =>
        match xs, hxl with
        | [x0, x1, x2, x3], _ =>
          simp only [Rows.laid_monocle_hit_widths, Prod.mk.injEq, DataW.agg.injEq, List.map_cons, List.map_nil, List.cons.injEq, and_true] at hx
          obtain ⟨⟨ha, hb', hc', hd'⟩, _⟩ := hx
          have key : ∀ (i : Nat) (hi : i < 4) (u : Value) (x : DataW Unit × List MemPlace) (n : Int), [a, b, c, d][i]? = some u → [x0, x1, x2, x3][i]? = some x → .lit (.int .i64 n) = x.1 → u = .int .i64 n := by
            intro i hi u x n hu hxx hn
            have e0 := hel i hi
            rw [cInt, Nat.mul_one] at e0
            have hdt : ([a, b, c, d].drop i).take 1 = [u] := by
              have hlt : i < [a, b, c, d].length := by simpa using hi
              rw [List.drop_eq_getElem_cons hlt]
              rw [List.getElem?_eq_getElem hlt] at hu
              simp only [Option.some.injEq] at hu
              simp [hu]
            rw [hdt, hxx] at e0
            obtain ⟨m, r1, r2, _⟩ := DataW.trod_int Tryz.underlying3 (show DataW.trod _ Tryz.prog W 0 _ false m1 3 _ = some x from e0)
            rw [r2] at hn
            simp only [DataW.lit.injEq, Lit.int.injEq, true_and] at hn
            subst hn
            simpa using r1
          rw [key 0 (by omega) a x0 _ rfl rfl ha, key 1 (by omega) b x1 _ rfl rfl hb', key 2 (by omega) c x2 _ rfl rfl hc', key 3 (by omega) d x3 _ rfl rfl hd']
    · cases hv1
  have one : ∃ e fz, W.heap[2]? = some (.cells #[.int .i64 4294967296, .int .i64 4294967296] e fz) := by
    obtain ⟨fa, fb, hu, o0, o1, ta, tb⟩ := uSpan
    obtain ⟨xs, n, _, hx, hlen, hxl, hel⟩ := DataW.trod_struct hu hd0
    simp only [World.var?, gOne, Option.bind_some] at hv0
    split at hv0
    · rename_i cs e fz hb
      cases hv0
      refine ⟨e, fz, ?_⟩
      rw [hb]
      congr 2
      rw [cSpan] at hlen
      obtain ⟨l⟩ := cs0
      simp only at hlen hel
      match l, hlen with
      | [a, b], _ =>
        have e0 := hel 0 fa rfl
        have e1 := hel 1 fb rfl
        rw [ta, cInt, o0] at e0
        rw [tb, cInt, o1] at e1
        match xs, hxl with
        | [x0, x1], _ =>
          simp only [Rows.laid_monocle_surface_one, Prod.mk.injEq, DataW.agg.injEq, List.map_cons, List.map_nil, List.cons.injEq, and_true] at hx
          obtain ⟨⟨ha, hb'⟩, _⟩ := hx
          obtain ⟨m0, r1, r2, _⟩ := DataW.trod_int Tryz.underlying3 (show DataW.trod _ Tryz.prog W 0 _ false n 3 _ = some x0 from e0)
          obtain ⟨m1, r3, r4, _⟩ := DataW.trod_int Tryz.underlying3 (show DataW.trod _ Tryz.prog W 0 _ false n 3 _ = some x1 from e1)
          rw [r2] at ha
          rw [r4] at hb'
          simp only [DataW.lit.injEq, Lit.int.injEq, true_and] at ha hb'
          subst ha; subst hb'
          simp at r1 r3
          rw [r1, r3]
    · cases hv0
  refine ⟨fun b l hl => ?_⟩
  obtain ⟨e, fz, ho⟩ := one
  simp only [gtabAt, gs0] at hl
  split at hl
  · rename_i hb0
    cases hl
    rw [← Nat.eq_of_beq_eq_true hb0]
    exact ⟨[.int .i64 4294967296, .int .i64 4294967296], e, fz, ho, rfl⟩
  · split at hl
    · rename_i hb1
      cases hl
      obtain ⟨e', fz', hw⟩ := widths
      rw [← Nat.eq_of_beq_eq_true hb1]
      exact ⟨[.int .i64 1048576, .int .i64 67108864, .int .i64 2147483648, .int .i64 34359738368], e', fz', hw, rfl⟩
    · cases hl

theorem own0 : ownKnob Tryz.prog.godebug = none := by kernel_rfl

/-- The door's own heap meets the condition: three closed facts. -/
theorem door_met (os : Os) (args : Array Value) : laidMetH Tryz.prog laid1 ((World.doorLaid Tryz.prog 400 os).forCall (fun _ _ => 0) ⟨#[], args, []⟩).memory :=
  laidMetH_of_parts3 (fuel := 8) (laidMet_of_run' 8 (by kernel_rfl) (by kernel_rfl)) (by kernel_rfl) (by kernel_rfl)

/-- The call. -/
theorem known_call {W : World} (hL : laidMetH Tryz.prog laid1 W) : Calls Tryz.prog 4 #[] W fun e W' => Below W.heap.size W W' ∧ e = .returned (.bool true) := by
  have hm : MemoFact Tryz.prog W 4 [] (.bool (.cb true)) := by
    have := allKnown (of_laid hL)
    exact this (4, [([], (.bool (.cb true)))]) (by unfold ms98 m98; exact List.mem_append_left _ (List.mem_cons_self ..)) ([], (.bool (.cb true))) (List.mem_cons_self ..)
  obtain ⟨vs, V, h1, h2, h3⟩ := hm
  cases h1
  cases h2
  exact h3 W (Below.refl _ _)

/-- The law's end where old memory is as it was. -/
theorem post_of_below {H : Type} {enc : TypeId × Value → H} {P : Program} {f : Func} {s : ChangeSpec} {apart fresh handsOn again : Bool} {W W' : World} {args : Array Value} {v : Value} {ds gs : List (DataW H)} {before pa pv : List MemPlace}
    (hW : DataW.Whole enc P f.params.toList s.vars apart W args.toList ds gs before)
    (hres : ∀ (b : Nat) (sp : Nat → Bool) (hd : Bool), DataW.TrodAll enc P W' b sp hd f.resultTypes.toList (v.resultList f.resultTypes.size) (s.fn H (ds ++ gs)).results [])
    (hargs : ∀ sp : Nat → Bool, (∀ p ∈ before, sp p.block = true) → DataW.TrodAll enc P W' 0 sp true f.params.toList args.toList (s.fn H (ds ++ gs)).args pa)
    (hvars : ∀ sp : Nat → Bool, (∀ p ∈ before, sp p.block = true) → DataW.TrodVars enc P W' sp s.vars (s.fn H (ds ++ gs)).vars pv)
    (hps : before = pa ++ pv) (hb : Below W.heap.size W W')
    (hok : ∀ (j : Nat) (t : TypeId) (r : Value), f.resultTypes[j]? = some t → (v.resultList f.resultTypes.size)[j]? = some r → Value.okWide P W' .any 0 t r) :
    s.post enc P f apart fresh handsOn again W args v W' := by
  have hlt : ∀ p ∈ before, p.block < W.heap.size := fun p hp => hW.lt p hp
  have hold : ∀ p ∈ before, (fun b => decide (b < W.heap.size)) p.block = true := fun p hp => by simpa using hlt p hp
  refine ⟨ds, gs, before, [], pa, pv, hW, hres _ _ _, hargs _ hold, hvars _ hold, World.keptBut_mono (fun p hp => ⟨hp, ?_⟩) (hb.frame (· ∈ before)), fun _ => ?_⟩
  · rw [hps, List.mem_append] at hp
    exact Or.inr hp
  · obtain ⟨_, _, _, _, _, hz, hn⟩ := hW
    refine ⟨hok, _, _, ([] ++ pa) ++ pv, ⟨[] ++ pa, pv, trodAll_append (hargs _ (fun _ _ => rfl)) (hres _ _ _), hvars _ (fun _ _ => rfl), rfl, ?_, ?_⟩, ?_⟩
    · intro b off hp
      have hp' : MemPlace.cell b off ∈ before := by rw [hps]; simpa using hp
      rw [hb.frozen (p := ⟨b, off, none⟩) (hlt _ hp')]
      exact hz b off hp'
    · intro ha
      have := hn ha
      rw [hps] at this
      simpa using this
    · intro p hp _
      rw [hps]
      simpa using hp

theorem known_lifted (os : Os) (started : os.Started) (H : Type) (enc : TypeId × Value → H) :
    ReturnsInHanded {} Tryz.checked os 4 .any (fun w args => (Rows.hitKnownSpec.pre enc Tryz.prog Tryz.f4 [] false w args ∧ laidMetH Tryz.prog laid1 w) ∧ sizedMet enc Tryz.prog Tryz.f4 (OpenSpec.ofChange Rows.hitKnownSpec) false w args)
      (Rows.hitKnownSpec.post enc Tryz.prog Tryz.f4 false true false false) := by
  refine returnsInHanded_of_change_and (C := Tryz.checked) (X := fun w _ => laidMetH Tryz.prog laid1 w) (fun _ _ _ hh h => h.of_heap hh) own0 started (by kernel_rfl) Tryz.func4
    (ChangeSpec.witness_shaped (enc := enc) (C := Tryz.checked) (os := os) (X := fun w _ => laidMetH Tryz.prog laid1 w) false (World.doorLaid Tryz.prog 400 os) #[] 8 rfl (World.shaped_of_RefB (by kernel_rfl) (by kernel_rfl)) (by kernel_rfl) (by kernel_rfl) (by kernel_rfl) (door_met os _)) ?_
  intro W base args ds gs before hval0 hW _ _ hL _
  have hW' := hW
  obtain ⟨p, q, hA0, hV, rfl, hfz, hnd⟩ := hW
  have hA : DataW.TrodAll enc Tryz.prog W 0 (fun _ => true) true Tryz.f4.params.toList args.toList ds p := hA0
  rw [Tryz.params4] at hA
  obtain ⟨rfl, rfl, rfl⟩ := trodAll_none hA
  obtain ⟨rfl, rfl⟩ := trodVars_none hV
  refine (known_call hL).mono fun e W' ⟨hb, he⟩ => ?_
  subst he
  exact ⟨_, rfl, post_of_below (pa := []) (pv := []) hW' (fun _ _ _ => trodAll_mk1 (shut_bool Tryz.underlying4 _)) (fun _ _ => trodAll_mk0) (fun _ _ => rfl) rfl hb (ok_one (by kernel_rfl) rfl (okWide_bool_mk Tryz.underlying4 _))⟩

theorem known_holds : Rows.HitKnownSaid :=
  OpenClaim.holds_of_wide 4 Tryz.f4 rfl rfl rfl rfl rfl rfl rfl ⟨rfl, rfl, rfl, rfl, rfl⟩ rfl rfl rfl rfl rfl (by kernel_rfl) Tryz.func4 closed_facts
    (of_decide_eq_true (by kernel_rfl)) (by unfold Func.isWrapper; first | (rw [if_pos (by decide +kernel)]; kernel_rfl) | (rw [if_neg (by decide +kernel)]; exact ⟨rfl, rfl⟩))
    (fun os started H enc _ => known_lifted os started H enc)

end Go.Proofs.YtefmckneohhijaaGreatDoor
