/- What the listed variables of the surface layer give: from the card's condition on them to what the executor wants of the world. -/
import Derived.Test.YtfjhmdedhflpbabGreatDoorExH
import Derived.Test.YtfjhmdedhflpbabGreatDoorKB
import Derived.Test.YtfjhmdedhflpbabGreatDoorRows
import Derived.ProofKit
import Derived.LaidMore
import Derived.MakeChecks
namespace Go.Proofs.YtfjhmdedhflpbabGreatDoor
open Go Go.Ex Go.RowKit Go.WideElems Go.ChangeShapes Go.WideShapes

set_option maxRecDepth 100000
abbrev laid2 : List (String × DataW Unit) := [("monocle/surface.one", Rows.laid_monocle_surface_one), ("monocle/surface.places", Rows.laid_monocle_surface_places)]

theorem gOne : Tryz.prog.globalNamed "monocle/surface.one" = some 0 := by kernel_rfl
theorem gPlaces : Tryz.prog.globalNamed "monocle/surface.places" = some 1 := by kernel_rfl
theorem tOne : (Tryz.prog.globals[0]?).map (·.type) = some 32 := by kernel_rfl
theorem tPlaces : (Tryz.prog.globals[1]?).map (·.type) = some 110 := by kernel_rfl
theorem c32 : Tryz.prog.cellsOf 32 = 2 := by kernel_rfl
theorem c3 : Tryz.prog.cellsOf 3 = 1 := by kernel_rfl
theorem u32 : ∃ f0 f1 : Field, Tryz.prog.underlying 32 = some (.struct #[f0, f1]) ∧ f0.offset = 0 ∧ f1.offset = 1 ∧ f0.type = 3 ∧ f1.type = 3 := by
  have h : (match Tryz.prog.underlying 32 with | some (.struct fs) => (match fs.toList with | [f0, f1] => f0.offset.beq 0 && (f1.offset.beq 1 && (f0.type.beq 3 && f1.type.beq 3)) | _ => false) | _ => false) = true := by kernel_rfl
  split at h
  · rename_i fs hfs
    split at h
    · rename_i f0 f1 hl
      simp only [Bool.and_eq_true, Nat.beq_eq] at h
      have hl' : fs = #[f0, f1] := by
        have := congrArg List.toArray hl
        simpa using this
      exact ⟨f0, f1, by rw [hfs, hl'], h.1, h.2.1, h.2.2.1, h.2.2.2⟩
    · cases h
  · cases h

/-- An entry of the map, as it is read. -/
theorem entry_row {w : World} {fuel : Nat} {x : MapEntry} {m : Int} {ns : List Int} (hn : ns ≠ [])
    (hr : ∃ y, rd Tryz.prog 3 (elemAt (fun _ => ()) Tryz.prog w 0 (fun _ => true) false fuel 88) x = some y) (h : rg Tryz.prog 3 (elemAt (fun _ => ()) Tryz.prog w 0 (fun _ => true) false fuel 88) x = (.int .i64 m, .slice (ns.map fun n => .lit (.int .i64 n)) [])) :
    x.key = .int .i64 m ∧ ∃ k o c, x.val = .slice (some ⟨k, o, none⟩) ns.length c ∧ k < w.heap.size ∧ ∀ (j : Nat) n, ns[j]? = some n → w.cell? ⟨k, o + j, none⟩ = some (.int .i64 n) := by
  obtain ⟨y, hy⟩ := hr
  have hy' : y = (.int .i64 m, .slice (ns.map fun n => .lit (.int .i64 n)) []) := by
    unfold rg at h; rw [hy] at h; exact h
  subst hy'
  have hk := rd_key hy
  unfold rd at hy
  rw [hk] at hy
  simp only [Option.bind_some, Option.map_eq_some_iff, Prod.mk.injEq, true_and] at hy
  obtain ⟨z, hz, hz1⟩ := hy
  constructor
  · unfold keyOf at hk
    rw [Tryz.underlying3] at hk
    unfold mapKey at hk
    rw [Tryz.underlying3] at hk
    cases hv : x.key with
    | int q n =>
      rw [hv] at hk
      simp only at hk
      split at hk
      · rename_i hc
        simp only [Option.some.injEq, Lit.int.injEq] at hk
        rw [hc.1, hk.2]
      · cases hk
    | _ => rw [hv] at hk; cases hk
  · unfold elemAt at hz
    split at hz
    · rename_i hf
      have hz2 : DataW.trod (fun _ => ()) Tryz.prog w 0 (fun _ => true) false fuel 88 x.val.cells.toList = some (.slice (ns.map fun n => .lit (.int .i64 n)) [], z.2) := by
        rw [hz, ← hz1]
      have hc : x.val.cells.toList = [x.val] := by
        cases hv : x.val with
        | agg l =>
          rw [hv] at hf
          unfold Value.formed at hf
          rw [Tryz.underlying88] at hf
          cases hf
        | tuple l => rw [hv] at hf; cases hf
        | _ => rfl
      rw [hc] at hz2
      exact int_row Tryz.underlying88 Tryz.underlying3 c3 hn hz2
    · cases hz

theorem of_laid {W : World} (h : laidMetH Tryz.prog laid2 W) : ∃ e0, Laid W e0 := by
  rw [MakeChecks.laidMetH_plain _ _ _ (by kernel_rfl)] at h
  obtain ⟨ps, ⟨g0, t0, cs0, f0, p0, q0, hg0, ht0, hv0, hd0, ⟨g1, t1, cs1, f1, p1, q1, hg1, ht1, hv1, hd1, _, _⟩, _⟩, _, _⟩ := h
  obtain rfl := Option.some.inj (gOne.symm.trans hg0)
  obtain rfl := Option.some.inj (gPlaces.symm.trans hg1)
  obtain rfl := Option.some.inj (tOne.symm.trans ht0)
  obtain rfl := Option.some.inj (tPlaces.symm.trans ht1)
  -- the number 1
  have one : ∃ e fz, W.heap[0]? = some (.cells #[.int .i64 4294967296, .int .i64 4294967296] e fz) := by
    obtain ⟨fa, fb, hu, o0, o1, ta, tb⟩ := u32
    obtain ⟨xs, n, _, hx, hlen, hxl, hel⟩ := DataW.trod_struct hu hd0
    simp only [World.var?, gOne, Option.bind_some] at hv0
    split at hv0
    · rename_i cs e fz hb
      cases hv0
      refine ⟨e, fz, ?_⟩
      rw [hb]
      congr 2
      rw [c32] at hlen
      obtain ⟨l⟩ := cs0
      simp only at hlen hel
      match l, hlen with
      | [a, b], _ =>
        have e0 := hel 0 fa rfl
        have e1 := hel 1 fb rfl
        rw [ta, c3, o0] at e0
        rw [tb, c3, o1] at e1
        match xs, hxl with
        | [x0, x1], _ =>
          simp only [Rows.laid_monocle_surface_one, Prod.mk.injEq, DataW.agg.injEq, List.map_cons, List.map_nil, List.cons.injEq, and_true] at hx
          obtain ⟨⟨ha, hb'⟩, _⟩ := hx
          obtain ⟨m0, r1, r2, _⟩ := DataW.trod_int Tryz.underlying3 (show DataW.trod _ Tryz.prog W 0 _ false n 3 _ = some x0 from e0)
          obtain ⟨m1, r3, r4, _⟩ := DataW.trod_int Tryz.underlying3 (show DataW.trod _ Tryz.prog W 0 _ false n 3 _ = some x1 from e1)
          rw [r2] at ha
          rw [r4] at hb'
          simp only [DataW.lit.injEq, Lit.int.injEq, true_and] at ha hb'
          subst ha; subst hb'
          simp at r1 r3
          rw [r1, r3]
    · cases hv0
  -- the map
  rcases open_map Tryz.underlying110 hd1 with ⟨_, hx⟩ | ⟨bm, es, clock, fuel, rfl, hcs, hb, _, F, hx⟩
  · simp [Rows.laid_monocle_surface_places] at hx
  simp only [Prod.mk.injEq] at hx
  obtain ⟨hx, _⟩ := hx
  have hmap : ∃ e fz, W.heap[1]? = some (.cells #[.map (some bm)] e fz) := by
    simp only [World.var?, gPlaces, Option.bind_some] at hv1
    split at hv1
    · rename_i cs e fz hb1
      cases hv1
      refine ⟨e, fz, ?_⟩
      rw [hb1]
      congr 2
      obtain ⟨l⟩ := cs1
      simp only at hcs
      rw [hcs]
    · cases hv1
  simp only [Rows.laid_monocle_surface_places, DataW.map.injEq] at hx
  have hperm := (sorted_perm (es.toList.map (rg Tryz.prog 3 (elemAt (fun _ => ()) Tryz.prog W 0 (fun _ => true) false fuel 88)))).symm
  rw [← hx] at hperm
  obtain ⟨l', hp1, hp2⟩ := perm_of_map _ hperm
  have hlen : l'.length = 4 := by simpa using congrArg List.length hp2
  match l', hlen, hp1, hp2 with
  | [x1, x2, x3, x4], _, hp1, hp2 =>
    simp only [List.map_cons, List.map_nil, List.cons.injEq, and_true] at hp2
    obtain ⟨g1, g2, g3, g4⟩ := hp2
    have hin : ∀ x ∈ [x1, x2, x3, x4], x ∈ es.toList := fun x hx => hp1.mem_iff.2 hx
    obtain ⟨k1, s1, a1, d1, v1, lt1, r1⟩ := entry_row (ns := [1,2,5,6,7,8,10]) (by simp) (F.reads x1 (hin _ (by simp))) g1
    obtain ⟨k2, s2, a2, d2, v2, lt2, r2⟩ := entry_row (ns := [1,2,3,4,10]) (by simp) (F.reads x2 (hin _ (by simp))) g2
    obtain ⟨k3, s3, a3, d3, v3, lt3, r3⟩ := entry_row (ns := [11,12,13,14,15]) (by simp) (F.reads x3 (hin _ (by simp))) g3
    obtain ⟨k4, s4, a4, d4, v4, lt4, r4⟩ := entry_row (ns := [1,10]) (by simp) (F.reads x4 (hin _ (by simp))) g4
    refine ⟨[[.a bm], [.a s1, .i a1, .i d1], [.a s2, .i a2, .i d2], [.a s3, .i a3, .i d3], [.a s4, .i a4, .i d4]], rfl, ?_, ?_, ?_⟩
    · intro b l hl
      obtain ⟨e, fz, ho⟩ := one
      obtain ⟨e', fz', hm⟩ := hmap
      simp only [gtabAt, gs0] at hl
      split at hl
      · rename_i hb0
        cases hl
        rw [← Nat.eq_of_beq_eq_true hb0]
        exact ⟨[.int .i64 4294967296, .int .i64 4294967296], e, fz, ho, rfl⟩
      · split at hl
        · rename_i hb1
          cases hl
          rw [← Nat.eq_of_beq_eq_true hb1]
          exact ⟨[.map (some bm)], e', fz', hm, rfl⟩
        · cases hl
    · intro id ao hl
      simp only [roAt, ros0] at hl
      split at hl
      · rename_i hb0
        cases hl
        rw [← Nat.eq_of_beq_eq_true hb0]
        refine ⟨bm, .map es clock, rfl, hb, [x1.val, x2.val, x3.val, x4.val], es, clock, ?_, rfl, ?_⟩
        · rw [v1, v2, v3, v4]; rfl
        · refine (hp1.map _).trans ?_
          simp only [List.map_cons, List.map_nil, List.zip_cons_cons, List.zip_nil_right, k1, k2, k3, k4]
          exact List.Perm.refl _
      · cases hl
    · intro id cs hl
      have row : ∀ {k o : Nat} {c : Nat} {ns : List Int} {i : Nat}, Go.Ex.rowAt [[.a bm], [.a s1, .i a1, .i d1], [.a s2, .i a2, .i d2], [.a s3, .i a3, .i d3], [.a s4, .i a4, .i d4]] i = some (k, o, c) → k < W.heap.size → (∀ (j : Nat) n, ns[j]? = some n → W.cell? ⟨k, o + j, none⟩ = some (.int .i64 n)) →
          ∃ k o c vs, Go.Ex.rowAt [[.a bm], [.a s1, .i a1, .i d1], [.a s2, .i a2, .i d2], [.a s3, .i a3, .i d3], [.a s4, .i a4, .i d4]] i = some (k, o, c) ∧ k < W.heap.size ∧ AV.dens [[.a bm], [.a s1, .i a1, .i d1], [.a s2, .i a2, .i d2], [.a s3, .i a3, .i d3], [.a s4, .i a4, .i d4]] (il ns) = some vs ∧ ∀ (j : Nat) v, vs[j]? = some v → W.cell? ⟨k, o + j, none⟩ = some v := by
        intro k o c ns i h1 h2 h3
        refine ⟨k, o, c, ns.map fun n => .int .i64 n, h1, h2, ?_, ?_⟩
        · clear h3
          induction ns with
          | nil => rfl
          | cons n ns ih =>
            simp only [il, List.map_cons, AV.dens, AV.den, X.den]
            have ih' : AV.dens [[.a bm], [.a s1, .i a1, .i d1], [.a s2, .i a2, .i d2], [.a s3, .i a3, .i d3], [.a s4, .i a4, .i d4]] (ns.map fun n => AV.int .i64 (.ci n)) = some (ns.map fun n => Value.int .i64 n) := ih
            rw [ih']
        · intro j v hj
          simp only [List.getElem?_map, Option.map_eq_some_iff] at hj
          obtain ⟨n, hn, rfl⟩ := hj
          exact h3 j n hn
      simp only [gtabAt, rss0] at hl
      split at hl
      · rename_i hb0; cases hl; rw [← Nat.eq_of_beq_eq_true hb0]; exact row rfl lt1 r1
      split at hl
      · rename_i hb0; cases hl; rw [← Nat.eq_of_beq_eq_true hb0]; exact row rfl lt2 r2
      split at hl
      · rename_i hb0; cases hl; rw [← Nat.eq_of_beq_eq_true hb0]; exact row rfl lt3 r3
      split at hl
      · rename_i hb0; cases hl; rw [← Nat.eq_of_beq_eq_true hb0]; exact row rfl lt4 r4
      · cases hl

end Go.Proofs.YtfjhmdedhflpbabGreatDoor
