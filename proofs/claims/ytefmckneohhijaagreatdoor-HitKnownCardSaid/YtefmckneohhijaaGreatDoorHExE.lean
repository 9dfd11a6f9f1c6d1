/- A symbolic executor for Go code in the model, proved sound for any program: calls, loops, codes are executed soundly. No condition. -/
import Derived.Test.YtefmckneohhijaaGreatDoorHExD
import Derived.LoopNIn
namespace Go.Ex
open Go Go.RowKit

theorem MRel.put {env : Env} {mk : List DI} {A : Act} (h : MRel env mk A.defers) (d : Option Nat) (V : Value) : MRel env mk (A.put d V).defers := by rw [put_defers]; exact h

theorem runOps_any {C : Ctx} (hT : TabOk C) {rec : Task → Tr Out} (hS : Sound C rec) {Q : Env → Out → Prop} {ops : Array Oper} {ds : List Deferred} {r : Option Nat} {n : Nat} {env0 : Env} {st0 : St} {wb : World} (h0 : WRel C env0 st0 wb)
    {kp : AV → Tm → St → Tr Out} {kok : Tm → St → Tr Out} {Post : Exit → Act → World → Prop}
    (hend : ∀ {tm : Tm} {st : St} {env : Env} {A : Act} {w : World}, (kok tm st).sat C.S env Q → WRel C env st w → TRel env tm A.tmps → A.defers = ds → Keep env0 st0 wb env st w → Post .normal A w)
    (hpan : ∀ {v : AV} {tm : Tm} {st : St} {env : Env} {A : Act} {w : World} {V : Value}, (kp v tm st).sat C.S env Q → WRel C env st w → A.defers = ds → Keep env0 st0 wb env st w → v.den env = some V → Post (.panic [{ v := V, recovered := false }]) A w) :
    ∀ (l : List Nat) {tm : Tm} {st : St} {env : Env} {A : Act} {w : World},
      (runOps C.T rec ops kp kok l tm st).sat C.S env Q →
      WRel C env st w → TRel env tm A.tmps → A.defers = ds → Keep env0 st0 wb env st w →
      wpOpsIn (FW r) n C.P ops Post l A w
  | [], tm, st, env, A, w, h, hw, ht, hm, hk => hend h hw ht hm hk
  | i :: rest, tm, st, env, A, w, h, hw, ht, hm, hk => by
    unfold runOps at h
    simp only [wpOpsIn]
    have hput : ∀ (d : Option Nat) (V : Value), (A.put d V).defers = ds := fun d V => by rw [put_defers]; exact hm
    split at h
    · rename_i hi
      simp only [hi]
      exact runOps_any hT hS h0 hend hpan rest h hw ht hm hk
    · rename_i o hi
      simp only [hi]
      obtain ⟨st1, h1, hw1, hs1⟩ := guardOf_ok h hw ht
      have hk1 := Keep.trans h0 hw hk (hs1.keep hw)
      by_cases hwant : Region.wanted o (yielded ops A.tmps) = true
      · simp only [hwant, if_true] at h1 ⊢
        by_cases hq : isQuiet o.op = true
        · simp only [hq] at h1
          obtain ⟨v, st2, h2, hw2, hs2, V, hV, hrun⟩ := qval_ok hT h1 hw1 ht
          refine wpIn_value (C := C) (isQuiet_nd hq) hrun ?_
          exact runOps_any hT hS h0 hend hpan rest h2 hw2 (ht.put hV _) (hput _ _) (Keep.trans h0 hw1 hk1 (hs2.keep hw1))
        · have hq' : isQuiet o.op = false := by simpa using hq
          simp only [hq'] at h1
          refine opStep_ok hT hS rfl h1 hw1 ht ?_ ?_
          · intro env' v st' w' V hp hsat hw' hkeep hV
            exact runOps_any hT hS h0 hend hpan rest hsat hw' ((ht.mono hp).put hV _) (hput _ _) (Keep.trans h0 hw1 hk1 hkeep)
          · intro env' v st' w' V hp hsat hw' hkeep hV
            exact hpan hsat hw' hm (Keep.trans h0 hw1 hk1 hkeep) hV
      · simp only [hwant] at h1 ⊢
        refine ⟨fun _ _ => trivial, ?_⟩
        exact runOps_any hT hS h0 hend hpan rest h1 hw1 (ht.put (undefA_den env) _) (hput _ _) hk1

theorem runOps_gen {C : Ctx} (hT : TabOk C) {rec : Task → Tr Out} (hS : Sound C rec) {Q : Env → Out → Prop} {ops : Array Oper} {mk : List DI} {r : Option Nat} {n : Nat} {env0 : Env} {st0 : St} {wb : World} (h0 : WRel C env0 st0 wb)
    {kok : Tm → St → Tr Out} {l2 : List Nat} (hend : ∀ {tm : Tm} {st : St} {env : Env} {A : Act} {w : World}, (kok tm st).sat C.S env Q → WRel C env st w → TRel env tm A.tmps → MRel env mk A.defers → Keep env0 st0 wb env st w → wpOpsIn (FW r) n C.P ops (PostC C Q env0 st0 wb) l2 A w) :
    ∀ (l : List Nat) {tm : Tm} {st : St} {env : Env} {A : Act} {w : World},
      (runOps C.T rec ops (fun v tm st => .ret (.code (.pan v) tm mk st)) kok l tm st).sat C.S env Q →
      WRel C env st w → TRel env tm A.tmps → MRel env mk A.defers → Keep env0 st0 wb env st w →
      wpOpsIn (FW r) n C.P ops (PostC C Q env0 st0 wb) (l ++ l2) A w
  | [], tm, st, env, A, w, h, hw, ht, hm, hk => hend h hw ht hm hk
  | i :: rest, tm, st, env, A, w, h, hw, ht, hm, hk => by
    unfold runOps at h
    simp only [List.cons_append, wpOpsIn]
    split at h
    · rename_i hi
      simp only [hi]
      exact runOps_gen hT hS h0 hend rest h hw ht hm hk
    · rename_i o hi
      simp only [hi]
      obtain ⟨st1, h1, hw1, hs1⟩ := guardOf_ok h hw ht
      have hk1 := Keep.trans h0 hw hk (hs1.keep hw)
      by_cases hwant : Region.wanted o (yielded ops A.tmps) = true
      · simp only [hwant, if_true] at h1 ⊢
        by_cases hq : isQuiet o.op = true
        · simp only [hq] at h1
          obtain ⟨v, st2, h2, hw2, hs2, V, hV, hrun⟩ := qval_ok hT h1 hw1 ht
          refine wpIn_value (C := C) (isQuiet_nd hq) hrun ?_
          exact runOps_gen hT hS h0 hend rest h2 hw2 (ht.put hV _) (hm.put _ _) (Keep.trans h0 hw1 hk1 (hs2.keep hw1))
        · have hq' : isQuiet o.op = false := by simpa using hq
          simp only [hq'] at h1
          refine opStep_ok hT hS rfl h1 hw1 ht ?_ ?_
          · intro env' v st' w' V hp hsat hw' hkeep hV
            exact runOps_gen hT hS h0 hend rest hsat hw' ((ht.mono hp).put hV _) ((hm.mono hp).put _ _) (Keep.trans h0 hw1 hk1 hkeep)
          · intro env' v st' w' V hp hsat hw' hkeep hV
            exact ⟨env', .pan v, tm, mk, st', hsat, hw', Keep.trans h0 hw1 hk1 hkeep, ⟨V, hV, rfl⟩, TP.of (ht.mono hp), hm.mono hp⟩
      · simp only [hwant] at h1 ⊢
        refine ⟨fun _ _ => trivial, ?_⟩
        exact runOps_gen hT hS h0 hend rest h1 hw1 (ht.put (undefA_den env) _) (hm.put _ _) hk1

theorem runOps_ok {C : Ctx} (hT : TabOk C) {rec : Task → Tr Out} (hS : Sound C rec) {Q : Env → Out → Prop} {ops : Array Oper} {mk : List DI} {r : Option Nat} {n : Nat} {env0 : Env} {st0 : St} {wb : World} (h0 : WRel C env0 st0 wb)
    (l : List Nat) {tm : Tm} {st : St} {env : Env} {A : Act} {w : World}
      (h : (runOps C.T rec ops (fun v tm st => .ret (.code (.pan v) tm mk st)) (fun tm st => .ret (.code .normal tm mk st)) l tm st).sat C.S env Q)
      (hw : WRel C env st w) (ht : TRel env tm A.tmps) (hm : MRel env mk A.defers) (hk : Keep env0 st0 wb env st w) :
      wpOpsIn (FW r) n C.P ops (PostC C Q env0 st0 wb) l A w := by
  have := runOps_gen hT hS h0 (r := r) (n := n) (l2 := []) (kok := fun tm st => .ret (.code .normal tm mk st)) (ops := ops) (mk := mk) (Q := Q) (fun {tm st env A w} h hw ht hm hk => ⟨env, .normal, tm, mk, st, h, hw, hk, trivial, TP.of ht, hm⟩) l h hw ht hm hk
  rwa [List.append_nil] at this

theorem resultsOf_ok {C : Ctx} (hT : TabOk C) {env : Env} {st : St} {w : World} (hw : WRel C env st w) {tm : Tm} {tmps : Array Value} (ht : TRel env tm tmps) : ∀ {l : List ResultVar} {as : List AV}, resultsOf C.T st.heap tm l = some as →
    ∃ vs, AV.dens env as = some vs ∧ ∀ f : ResultVar → Sem Value, (∀ t, f (.tmp t) = pure (tmps.getD t undef)) → (∀ a t, f (.cell a t) = do loadVar t (← asAddr (tmps.getD a undef))) → (l.mapM f : Sem (List Value)).run C.P w = .ok vs w
  | [], as, h => by cases h; exact ⟨[], rfl, fun _ _ _ => rfl⟩
  | .tmp t :: l, as, h => by
    simp only [resultsOf] at h
    split at h
    · rename_i a as' ha has
      cases h
      obtain ⟨V, hV, hd⟩ := ht.get ha
      obtain ⟨vs, hvs, hrun⟩ := resultsOf_ok hT hw ht has
      refine ⟨V :: vs, by simp only [AV.dens, hd, hvs], fun f h1 h2 => ?_⟩
      have hg : tmps.getD t undef = V := by simp [hV]
      simp only [List.mapM_cons, h1, Sem.run_bind, Sem.run_pure, Result.andThen_ok, hrun f h1 h2, hg]
    · cases h
  | .cell a t :: l, as, h => by
    simp only [resultsOf] at h
    split at h
    · rename_i p hp
      split at h
      · rename_i a' as' ha has
        cases h
        obtain ⟨V, hV, hd⟩ := ht.get hp
        obtain ⟨u, hu, hrun1⟩ := lopAt_ok hT hw hd ha
        obtain ⟨vs, hvs, hrun⟩ := resultsOf_ok hT hw ht has
        refine ⟨u :: vs, by simp only [AV.dens, hu, hvs], fun f h1 h2 => ?_⟩
        have hg : tmps.getD a undef = V := by simp [hV]
        have hrun2 : (do loadVar t (← asAddr V) : Sem Value).run C.P w = .ok u w := by
          unfold lopAt at ha
          split at ha
          · obtain ⟨k, _, rfl⟩ := AV.den_ptr hd
            simpa [Instr.loadAt, Instr.sureAddr, asAddr] using hrun1
          · rename_i b off _
            have : V = .pointer (some ⟨b, off, none⟩) := by simp only [AV.den, Option.some.injEq] at hd; exact hd.symm
            subst this
            simpa [Instr.loadAt, Instr.sureAddr, asAddr] using hrun1
          · obtain ⟨k, o, c, _, rfl⟩ := AV.den_rptr hd
            simpa [Instr.loadAt, Instr.sureAddr, asAddr] using hrun1
          · cases ha
        simp only [List.mapM_cons, h2, hg]
        rw [Sem.run_bind, hrun2]
        simp only [Result.andThen_ok, Sem.run_bind, hrun f h1 h2, Sem.run_pure]
      · cases h
    · cases h

def singleV : List Value → Value
  | [v] => v
  | l => .tuple l.toArray

theorem single_ok {env : Env} {as : List AV} {vs : List Value} (h : AV.dens env as = some vs) : (single as).den env = some (singleV vs) := by
  cases as with
  | nil => cases AV.dens_nil' h; rfl
  | cons a as =>
    obtain ⟨v, us, hv, hus, rfl⟩ := AV.dens_cons h
    cases as with
    | nil => cases AV.dens_nil' hus; exact hv
    | cons b as =>
      obtain ⟨v2, us2, hv2, hus2, rfl⟩ := AV.dens_cons hus
      simp only [single, singleV, AV.den, h]

theorem results_ok {C : Ctx} (hT : TabOk C) {env : Env} {st : St} {w : World} (hw : WRel C env st w) {tm : Tm} {tmps : Array Value} (ht : TRel env tm tmps) {fn : Func} {as : List AV} (h : resultsOf C.T st.heap tm fn.results.toList = some as) :
    ∃ V, (single as).den env = some V ∧ (results fn tmps).run C.P w = .ok V w := by
  obtain ⟨vs, hvs, hrun⟩ := resultsOf_ok hT hw ht h
  refine ⟨singleV vs, single_ok hvs, ?_⟩
  unfold results
  rw [Sem.run_bind, Array.mapM_eq_mapM_toList, Sem.run_map, hrun _ (fun _ => rfl) (fun _ _ => rfl)]
  simp only [Result.andThen_ok, Sem.run_pure]
  congr 1
  cases vs with
  | nil => rfl
  | cons v vs => cases vs with
    | nil => rfl
    | cons u us => simp [singleV]

/-! ### Functions met by their contracts -/
def CK.val? (k : CK) (s : Sc) : Option Value :=
  match k, s with
  | .int k, .i n => some (.int k n)
  | .bool, .b v => some (.bool v)
  | .str, .s x => some (.string x)
  | .val, .v V => if isRef V then some V else none
  | _, _ => none

def takeCs : List CK → List Sc → Option (List Value × List Sc)
  | [], l => some ([], l)
  | k :: ks, s :: l => match k.val? s, takeCs ks l with
    | some v, some (vs, r) => some (v :: vs, r)
    | _, _ => none
  | _ :: _, [] => none

def takeO : OutT → List Sc → Option (Value × List Sc)
  | .one k, s :: l => match k.val? s with
    | some v => some (v, l)
    | none => none
  | .one _, [] => none
  | .agg ks, l => match takeCs ks l with
    | some (vs, r) => some (.agg vs.toArray, r)
    | none => none

def takeOs : List OutT → List Sc → Option (List Value × List Sc)
  | [], l => some ([], l)
  | o :: os, l => match takeO o l with
    | some (v, r) => match takeOs os r with
      | some (vs, r') => some (v :: vs, r')
      | none => none
    | none => none

/-- How a function that is met by its contract ends. -/
def EndRel (sp : Spec) (scs : List Sc) (e : Ending) : Prop :=
  match sp.pan with
  | none => ∃ vs r, takeOs sp.outs scs = some (vs, r) ∧ e = .returned (singleV vs)
  | some (t, o) => match scs with
    | .b true :: l => ∃ v r, takeO o l = some (v, r) ∧ e = .panicked [{ v := .iface t v, recovered := false }]
    | .b false :: l => ∃ vs r, takeOs sp.outs (l.drop o.len) = some (vs, r) ∧ e = .returned (singleV vs)
    | _ => False

/-- A call whose answer is known. -/
def MemoFact (P : Program) (w0 : World) (f : Nat) (args : List AV) (r : AV) : Prop :=
  ∃ vs V, AV.dens [] args = some vs ∧ r.den [] = some V ∧ ∀ w, Below w0.heap.size w0 w → Calls P f vs.toArray w fun e w' => Below w.heap.size w w' ∧ e = .returned V

/-- The contracts hold. -/
structure SpecsOk (C : Ctx) : Prop where
  memo : ∀ f args r, C.T.memo f args = some r → MemoFact C.P C.w0 f args r
  specs : ∀ f sp, C.T.specs f = some sp → ∀ (scs : List Sc) (vs : List Value) (w : World), Below C.w0.heap.size C.w0 w → C.S.Pre sp.sym scs → takeOs sp.ins scs = some (vs, []) →
  Calls C.P f vs.toArray w fun e w' => Below w.heap.size w w' ∧ EndRel sp (C.S.F sp.sym scs) e

theorem argX1_ok {env : Env} {k : CK} {a : AV} {x : X} {v : Value} (h : argX1 k a = some x) (hd : a.den env = some v) : ∃ s, x.den env = some s ∧ k.val? s = some v := by
  unfold argX1 at h
  split at h
  · split at h
    · rename_i hk
      cases h
      obtain ⟨n, hn, rfl⟩ := AV.den_int hd
      exact ⟨_, hn, by rw [kindEqb_eq hk]; rfl⟩
    · cases h
  · cases h
    obtain ⟨n, hn, rfl⟩ := AV.den_bool hd
    exact ⟨_, hn, rfl⟩
  · cases h
    obtain ⟨n, hn, rfl⟩ := AV.den_str hd
    exact ⟨_, hn, rfl⟩
  · cases h
    simp only [AV.den] at hd
    split at hd
    · rename_i V hV
      split at hd
      · rename_i hr; cases hd; exact ⟨_, hV, by simp only [CK.val?, hr, if_true]⟩
      · cases hd
    · cases hd
  · cases h
    have : v = .slice none 0 0 := by simp only [AV.den, Option.some.injEq] at hd; exact hd.symm
    subst this
    exact ⟨_, rfl, rfl⟩
  · cases h

theorem argXs_ok {env : Env} : ∀ {ks : List CK} {as : List AV} {xs : List X} {vs : List Value}, argXs ks as = some xs → AV.dens env as = some vs → ∃ ss, densX env xs = some ss ∧ ∀ l, takeCs ks (ss ++ l) = some (vs, l)
  | [], [], xs, vs, h, hd => by cases h; cases AV.dens_nil' hd; exact ⟨[], rfl, fun _ => rfl⟩
  | k :: ks, a :: as, xs, vs, h, hd => by
    obtain ⟨v, us, hv, hus, rfl⟩ := AV.dens_cons hd
    simp only [argXs] at h
    split at h
    · rename_i x xs' hx hxs
      cases h
      obtain ⟨s, hs, hk⟩ := argX1_ok hx hv
      obtain ⟨ss, hss, ht⟩ := argXs_ok hxs hus
      exact ⟨s :: ss, by simp only [densX, hs, hss], fun l => by simp only [List.cons_append, takeCs, hk, ht l]⟩
    · cases h
  | [], _ :: _, _, _, h, _ => by cases h
  | _ :: _, [], _, _, h, _ => by cases h

theorem densX_append {env : Env} : ∀ {l m : List X} {vs us : List Sc}, densX env l = some vs → densX env m = some us → densX env (l ++ m) = some (vs ++ us)
  | [], m, vs, us, h, h' => by cases h; exact h'
  | a :: l, m, vs, us, h, h' => by
    simp only [densX] at h
    split at h
    · rename_i x y hx hy; cases h; simp only [List.cons_append, densX, hx, densX_append hy h']
    · cases h

theorem argsX_ok {env : Env} : ∀ {os : List OutT} {as : List AV} {xs : List X} {vs : List Value}, argsX os as = some xs → AV.dens env as = some vs → ∃ ss, densX env xs = some ss ∧ ∀ l, takeOs os (ss ++ l) = some (vs, l)
  | [], [], xs, vs, h, hd => by cases h; cases AV.dens_nil' hd; exact ⟨[], rfl, fun _ => rfl⟩
  | .one k :: os, a :: as, xs, vs, h, hd => by
    obtain ⟨v, us, hv, hus, rfl⟩ := AV.dens_cons hd
    have h' : (match argX1 k a, argsX os as with
      | some x, some xs => some (x :: xs)
      | _, _ => none) = some xs := by cases a <;> exact h
    split at h'
    · rename_i x xs' hx hxs
      cases h'
      obtain ⟨s, hs, hk⟩ := argX1_ok hx hv
      obtain ⟨ss, hss, ht⟩ := argsX_ok hxs hus
      exact ⟨s :: ss, by simp only [densX, hs, hss], fun l => by simp only [List.cons_append, takeOs, takeO, hk, ht l]⟩
    · cases h'
  | .agg ks :: os, a :: as, xs, vs, h, hd => by
    obtain ⟨v, us, hv, hus, rfl⟩ := AV.dens_cons hd
    cases a with
    | agg cs =>
      obtain ⟨cvs, hcvs, rfl⟩ := AV.den_agg hv
      simp only [argsX] at h
      split at h
      · rename_i ys xs' hx hxs
        cases h
        obtain ⟨s1, hs1, ht1⟩ := argXs_ok hx hcvs
        obtain ⟨ss, hss, ht⟩ := argsX_ok hxs hus
        exact ⟨s1 ++ ss, densX_append hs1 hss, fun l => by simp only [List.append_assoc, takeOs, takeO, ht1, ht l]⟩
      · cases h
    | _ => cases h
  | [], _ :: _, _, _, h, _ => by cases h
  | .one _ :: _, [], _, _, h, _ => by cases h
  | .agg _ :: _, [], _, _, h, _ => by cases h

/-! results -/
theorem CK.av_ok {env : Env} {k : CK} {id i : Nat} {scs : List Sc} {s : Sc} {v : Value} (he : env[id]? = some scs) (hs : scs[i]? = some s) (h : k.val? s = some v) : (k.av id i).den env = some v := by
  have hd : (X.var id i).den env = some s := by simp only [X.den, he, Option.bind_some, hs]
  cases k <;> cases s <;> simp only [CK.val?] at h <;> first
    | (cases h; done)
    | (cases h; simp only [CK.av, AV.den, hd]; done)
    | (split at h
       · rename_i hr; cases h; simp only [CK.av, AV.den, hd, hr, if_true]
       · cases h)

theorem drop_cons {α : Type} {l r : List α} {i : Nat} {s : α} (h : l.drop i = s :: r) : l[i]? = some s ∧ l.drop (i + 1) = r := by
  have h1 : l[i]? = some s := by
    have := congrArg List.head? h
    simpa [List.head?_drop] using this
  refine ⟨h1, ?_⟩
  have h2 : l.drop (i + 1) = (l.drop i).drop 1 := by rw [List.drop_drop]
  rw [h2, h]; rfl

theorem cellsAV_ok {env : Env} {id : Nat} {scs : List Sc} (he : env[id]? = some scs) : ∀ {ks : List CK} {i : Nat} {l : List Sc} {vs : List Value} {r : List Sc}, scs.drop i = l → takeCs ks l = some (vs, r) → AV.dens env (cellsAV id ks i) = some vs ∧ scs.drop (i + ks.length) = r
  | [], i, l, vs, r, hl, h => by cases h; exact ⟨rfl, hl⟩
  | k :: ks, i, [], vs, r, hl, h => by cases h
  | k :: ks, i, s :: l, vs, r, hl, h => by
    simp only [takeCs] at h
    split at h
    · rename_i v vs' r' hv hvs
      cases h
      obtain ⟨h1, h2⟩ := drop_cons hl
      obtain ⟨g1, g2⟩ := cellsAV_ok he h2 hvs
      refine ⟨by simp only [cellsAV, AV.dens, CK.av_ok he h1 hv, g1], ?_⟩
      rw [← g2]; congr 1; simp only [List.length_cons]; omega
    · cases h

theorem outAV_ok {env : Env} {id : Nat} {scs : List Sc} (he : env[id]? = some scs) {o : OutT} {i : Nat} {l : List Sc} {v : Value} {r : List Sc} (hl : scs.drop i = l) (h : takeO o l = some (v, r)) : (o.av id i).den env = some v ∧ scs.drop (i + o.len) = r := by
  cases o with
  | one k =>
    cases l with
    | nil => cases h
    | cons s l =>
      simp only [takeO] at h
      split at h
      · rename_i v' hv
        cases h
        obtain ⟨h1, h2⟩ := drop_cons hl
        exact ⟨CK.av_ok he h1 hv, h2⟩
      · cases h
  | agg ks =>
    simp only [takeO] at h
    split at h
    · rename_i vs r' hvs
      cases h
      obtain ⟨g1, g2⟩ := cellsAV_ok he hl hvs
      exact ⟨by simp only [OutT.av, AV.den, g1], g2⟩
    · cases h

theorem outsAV_ok {env : Env} {id : Nat} {scs : List Sc} (he : env[id]? = some scs) : ∀ {os : List OutT} {i : Nat} {l : List Sc} {vs : List Value} {r : List Sc}, scs.drop i = l → takeOs os l = some (vs, r) → AV.dens env (outsAV id os i) = some vs
  | [], i, l, vs, r, hl, h => by cases h; rfl
  | o :: os, i, l, vs, r, hl, h => by
    simp only [takeOs] at h
    split at h
    · rename_i v r1 hv
      split at h
      · rename_i vs' r2 hvs
        cases h
        obtain ⟨h1, h2⟩ := outAV_ok he hl hv
        simp only [outsAV, AV.dens, h1, outsAV_ok he h2 hvs]
      · cases h
    · cases h

theorem Keep.below {C : Ctx} {env : Env} {st : St} {w w' : World} (_hw : WRel C env st w) (hb : Below w.heap.size w w') (l : List Sc) {st' : St} (hh : st'.heap = st.heap) : Keep env st w (env ++ [l]) st' w' :=
  ⟨List.prefix_append _ _, hb.size, fun k hk _ => hb.block k hk, fun q hq k hk => by
    have hq' : q ∈ st.heap := by rw [← hh]; exact hq
    obtain ⟨k', hk'⟩ := _hw.addr_some hq'
    have := addr_mono (List.prefix_append env [l]) hk'
    rw [this] at hk; cases hk
    exact .inl ⟨q, hq', hk'⟩⟩

theorem WRel.after {C : Ctx} {env : Env} {st : St} {w w' : World} (hw : WRel C env st w) (hb : Below w.heap.size w w') : WRel C env st w' := by
  have hsz := hw.below.size
  refine hw.world (hw.below.trans (hb.mono hsz)) ?_
  rintro k ⟨p, hp, hk⟩
  obtain ⟨k', o, h1, h2, h3, h4⟩ := hw.heap p hp
  rw [hk] at h1; cases h1
  exact hb.block k (Array.getElem?_eq_some_iff.1 h3).1

theorem memo_ok {C : Ctx} (hSp : SpecsOk C) {f : Nat} {r : AV} {args : List AV} (hm : C.T.memo f args = some r) {st : St} {env : Env} {Q : Env → Out → Prop} (h : (Tr.ret (Out.call (.ret r) st)).sat C.S env Q) {n : Nat} {vs : List Value} {w : World} (hvs : AV.dens env args = some vs) (hw : WRel C env st w) :
    CallsIn Fence.wide n C.P f vs.toArray w (CallPost C Q env st w) := by
  obtain ⟨vs0, V, h1, h2, hc⟩ := hSp.memo f args r hm
  have := AV.dens_mono (List.nil_prefix (l := env)) _ h1
  rw [hvs] at this; cases this
  rw [callsIn_wide]
  refine (hc w hw.below).mono ?_
  rintro e w' ⟨hb, rfl⟩
  exact ⟨env, .ret r, st, h, hw.after hb, ⟨List.prefix_refl _, hb.size, fun k hk _ => hb.block k hk, fun q hq k hk => .inl ⟨q, hq, hk⟩⟩, AV.den_mono (List.nil_prefix) _ h2⟩

theorem specCall_ok {C : Ctx} (hSp : SpecsOk C) {f : Nat} {sp : Spec} (hf : C.T.specs f = some sp) {args : List AV} {st : St} {env : Env} {Q : Env → Out → Prop} (h : (specCall sp args st).sat C.S env Q) {n : Nat} {vs : List Value} {w : World} (hvs : AV.dens env args = some vs) (hw : WRel C env st w) :
    CallsIn Fence.wide n C.P f vs.toArray w (CallPost C Q env st w) := by
  unfold specCall at h
  split at h
  · exact h.elim
  · rename_i xs hxs
    obtain ⟨ss, hss, ht⟩ := argsX_ok hxs hvs
    simp only [Tr.sat, hss] at h
    obtain ⟨hpre, h⟩ := h
    have htk := ht []
    rw [List.append_nil] at htk
    have hc := hSp.specs f sp hf ss vs w hw.below hpre htk
    rw [callsIn_wide]
    refine hc.mono ?_
    rintro e w' ⟨hb, hend⟩
    have hw1 : WRel C (env ++ [C.S.F sp.sym ss]) { st with nb := st.nb + 1 } w' := (hw.after hb).ext _
    have he : (env ++ [C.S.F sp.sym ss])[st.nb]? = some (C.S.F sp.sym ss) := by rw [← hw.len]; simp
    unfold EndRel at hend
    split at h
    · rename_i hp
      simp only [hp] at hend
      obtain ⟨us, r, hus, rfl⟩ := hend
      exact ⟨_, _, _, h, hw1, Keep.below hw hb _ rfl, single_ok (outsAV_ok he (i := 0) rfl hus)⟩
    · rename_i t o hp
      simp only [hp] at hend
      split at hend
      · rename_i l hl
        obtain ⟨v, r, hv, rfl⟩ := hend
        have hx : (X.var st.nb 0).den (env ++ [C.S.F sp.sym ss]) = some (.b true) := by simp only [X.den]; rw [he, Option.bind_some, hl]; rfl
        obtain ⟨st2, h2, hw2, hs2⟩ := branchX_ok _ h hw1 hx
        obtain ⟨g1, _⟩ := outAV_ok he (i := 1) (l := l) (by rw [hl]; rfl) hv
        exact ⟨_, _, _, h2, hw2, Keep.below hw hb _ hs2.heap, .iface t v, by simp only [AV.den, g1], rfl⟩
      · rename_i l hl
        obtain ⟨us, r, hus, rfl⟩ := hend
        have hx : (X.var st.nb 0).den (env ++ [C.S.F sp.sym ss]) = some (.b false) := by simp only [X.den]; rw [he, Option.bind_some, hl]; rfl
        obtain ⟨st2, h2, hw2, hs2⟩ := branchX_ok _ h hw1 hx
        refine ⟨_, _, _, h2, hw2, Keep.below hw hb _ hs2.heap, single_ok (outsAV_ok he (i := 1 + o.len) (l := l.drop o.len) ?_ hus)⟩
        rw [hl, Nat.add_comm]; rfl
      · exact hend.elim

end Go.Ex

namespace Go.Ex
open Go Go.RowKit

theorem wpIn_scope {F : Fence} {n : Nat} {P : Program} {Q : Exit → Act → World → Prop} {a : Act} {w : World} {c : Code} (h : c.wpIn F n P Q a w) (hg : ∀ l a' w', ¬ Q (.goto l) a' w') : (Code.scope c).wpIn F n P Q a w := by
  intro b k cs hro hb hr
  have h0 : (lone (b.atR a (.code (.scope c) :: k)) cs w).fenced P F := fenced_calm hb hr rfl
  have s0 : step P (lone (b.atR a (.code (.scope c) :: k)) cs w) = .next (lone (b.atR a (.code c :: .inScope c :: k)) cs w) :=
    step_lone_go (by simp [stepG, stepG.exec, Frame.atR])
  have s1 : ∀ a' w', step P (lone (b.atR a' (.inScope c :: k)) cs w') = .next (lone (b.atR a' k) cs w') := fun a' w' =>
    step_lone_go (by simp [stepG, stepG.exec, Frame.atR])
  obtain ⟨e, a₁, w₁, hq, harr⟩ := h b (.inScope c :: k) cs hro hb hr
  cases e with
  | normal => exact ⟨.normal, a₁, w₁, hq, .head h0 s0 (StepsIn.trans harr (.one (fenced_calm hb hr rfl) (s1 _ _)))⟩
  | exit id =>
    have hx : exitTo id (.inScope c :: k) = exitTo id k := by simp [exitTo]
    exact ⟨.exit id, a₁, w₁, hq, fun k' hk => .head h0 s0 (harr.1 k' (by rw [hx]; exact hk)),
      fun hr' hk => let ⟨k₁, h1, h2⟩ := harr.2 hr' (by rw [hx]; exact hk); ⟨k₁, h1, .head h0 s0 h2⟩⟩
  | goto l => exact (hg l a₁ w₁ hq).elim
  | ret => exact ⟨_, a₁, w₁, hq, .of_steps (.one h0 s0) harr⟩
  | panic ch => exact ⟨_, a₁, w₁, hq, .of_steps (.one h0 s0) harr⟩
  | outgrown => exact ⟨_, a₁, w₁, hq, .of_steps (.one h0 s0) harr⟩

theorem key_setB' {l : List (Nat × AO)} {id : Nat} {a : AO} {q : Nat × AO} (hq : q ∈ setB l id a) {env : Env} {k : Nat} (hk : addr env q.1 = some k) : ∃ p ∈ l, addr env p.1 = some k := by
  have : q.1 ∈ (setB l id a).map (·.1) := List.mem_map_of_mem hq
  rw [keys_setB] at this
  obtain ⟨p, hp, e⟩ := List.mem_map.1 this
  exact ⟨p, hp, by rw [e]; exact hk⟩

theorem key_setB {l : List (Nat × AO)} {id : Nat} {a : AO} {q : Nat × AO} (hq : q ∈ setB l id a) : ∃ p ∈ l, p.1 = q.1 := by
  have : q.1 ∈ (setB l id a).map (·.1) := List.mem_map_of_mem hq
  rw [keys_setB] at this
  obtain ⟨p, hp, e⟩ := List.mem_map.1 this
  exact ⟨p, hp, e⟩

theorem deferOf_ok {ops : Array Oper} {n : Nat} {o : Oper} {c : Call} (h : deferOf ops = some (n, o, c)) : ops.size = n + 1 ∧ ops[n]? = some o ∧ o.op = .defer c ∧ o.guard = none := by
  unfold deferOf at h
  split at h
  · cases h
  · rename_i m hm
    split at h
    · rename_i o' ho
      split at h
      · rename_i c' hop hg
        simp only [Option.some.injEq, Prod.mk.injEq] at h
        obtain ⟨rfl, rfl, rfl⟩ := h
        exact ⟨hm, ho, hop, hg⟩
      · cases h
    · cases h

/-- What is owed of a region that draws its order. -/
def DrawOk (C : Ctx) : Prop := ∀ (rec : Task → Tr Out), Sound C rec → ∀ (id : Nat) (ops : Array Oper) (mk : List DI) (tm : Tm) (st : St) (env : Env) (Q : Env → Out → Prop),
  (drawRun C.T rec ops (fun v _ st => .ret (.code (.pan v) (poison ops.toList tm) mk st)) (fun tm st => .ret (.code .normal tm mk st)) tm st).sat C.S env Q →
  ∀ (r : Option Nat) (n : Nat) (A : Act) (w : World), TRel env tm A.tmps → MRel env mk A.defers → WRel C env st w → (Code.region id ops true).wpIn (FW r) n C.P (PostC C Q env st w) A w

theorem PostC.ret {C : Ctx} {Q : Env → Out → Prop} {env env' : Env} {st st' : St} {w w' : World} {xe : XE} {tm : Tm} {mk : List DI} {e : Exit} {A : Act} (h : (Tr.ret (Out.code xe tm mk st')).sat C.S env' Q) (hw : WRel C env' st' w') (hk : Keep env st w env' st' w') (hx : XRel env' xe e)
    (ht : TP env' xe tm A.tmps) (hm : MRel env' mk A.defers) : PostC C Q env st w e A w' := ⟨env', xe, tm, mk, st', h, hw, hk, hx, ht, hm⟩

theorem loopRun_ok {C : Ctx} {rec : Task → Tr Out} (hS : Sound C rec) {ro : Bool} {b : Code} {Q : Env → Out → Prop} {r : Option Nat} {n : Nat} (hr : r.isSome = ro) {env0 : Env} {st0 : St} {wb : World} (h0 : WRel C env0 st0 wb) :
    ∀ (m : Nat) {tm : Tm} {mk : List DI} {st : St} {env : Env} {A : Act} {w : World}, (loopRun rec ro b m tm mk st).sat C.S env Q → TRel env tm A.tmps → MRel env mk A.defers → WRel C env st w → Keep env0 st0 wb env st w →
    Code.roundsIn (FW r) n C.P b (PostC C Q env0 st0 wb) m A w
  | 0, tm, mk, st, env, A, w, h, _, _, _, _ => h.elim
  | m + 1, tm, mk, st, env, A, w, h, ht, hm, hw, hk => by
    have hb := hS _ _ _ (Tr.sat_bind h) r n A w hr ht hm hw
    refine wpIn_mono hb ?_
    rintro e A' w' ⟨env', xe, tm', mk', st', hsat, hw', hk', hx, ht', hm'⟩
    have hk2 := Keep.trans h0 hw hk hk'
    cases xe with
    | normal =>
      cases e <;> first | (exact hx.elim) | skip
      exact loopRun_ok hS hr h0 m hsat (ht'.1 rfl) hm' hw' hk2
    | exit i => cases e <;> first | (exact hx.elim) | exact PostC.ret hsat hw' hk2 hx ht' hm'
    | goto i => cases e <;> first | (exact hx.elim) | exact PostC.ret hsat hw' hk2 hx ht' hm'
    | ret => cases e <;> first | (exact hx.elim) | exact PostC.ret hsat hw' hk2 hx ht' hm'
    | pan v => cases e <;> first | (exact hx.elim) | exact PostC.ret hsat hw' hk2 hx ht' hm'

theorem code_ok {C : Ctx} (hT : TabOk C) (hD : DrawOk C) {rec : Task → Tr Out} (hS : Sound C rec) (ro : Bool) (c : Code) (tm : Tm) (mk : List DI) (st : St) (Q : Env → Out → Prop) (env : Env)
    (h : (stepX C.T rec (.code ro c tm mk st)).sat C.S env Q) : TaskOk C (.code ro c tm mk st) Q env := by
  intro r n A w hr ht hm hw
  have hkr := Keep.refl hw
  cases c with
  | skip => exact wpIn_skip ⟨env, .normal, tm, mk, st, h, hw, hkr, trivial, TP.of ht, hm⟩
  | label l => exact wpIn_label ⟨env, .normal, tm, mk, st, h, hw, hkr, trivial, TP.of ht, hm⟩
  | exit id => exact wpIn_exit ⟨env, .exit id, tm, mk, st, h, hw, hkr, rfl, TP.of ht, hm⟩
  | goto l => exact wpIn_goto ⟨env, .goto l, tm, mk, st, h, hw, hkr, rfl, TP.of ht, hm⟩
  | ret => exact wpIn_ret ⟨env, .ret, tm, mk, st, h, hw, hkr, trivial, TP.of ht, hm⟩
  | refuse why => exact h.elim
  | seq a b =>
    refine wpIn_seq (wpIn_mono (hS _ _ _ (Tr.sat_bind h) r n A w hr ht hm hw) ?_)
    rintro e A' w' ⟨env', xe, tm', mk', st', hsat, hw', hk', hx, ht', hm'⟩
    cases xe with
    | normal =>
      cases e <;> first | (exact hx.elim) | skip
      refine wpIn_mono (hS _ _ _ hsat r n A' w' hr (ht'.1 rfl) hm' hw') fun e A2 w2 hp => PostC.trans hw hw' hk' hp
    | exit i => cases e <;> first | (exact hx.elim) | exact PostC.ret hsat hw' hk' hx ht' hm'
    | goto i => cases e <;> first | (exact hx.elim) | exact PostC.ret hsat hw' hk' hx ht' hm'
    | ret => cases e <;> first | (exact hx.elim) | exact PostC.ret hsat hw' hk' hx ht' hm'
    | pan v => cases e <;> first | (exact hx.elim) | exact PostC.ret hsat hw' hk' hx ht' hm'
  | cond c a b =>
    simp only [stepX] at h
    split at h
    · rename_i x hx
      obtain ⟨p, hp, he⟩ := AV.den_bool (evO_ok ht hx)
      obtain ⟨st1, h1, hw1, hs1⟩ := branchX_ok x h hw hp
      refine wpIn_cond he ?_
      cases p with
      | true => exact wpIn_mono (hS _ _ _ h1 r n A w hr ht hm hw1) fun e A2 w2 hq => PostC.trans hw hw1 (hs1.keep hw) hq
      | false => exact wpIn_mono (hS _ _ _ h1 r n A w hr ht hm hw1) fun e A2 w2 hq => PostC.trans hw hw1 (hs1.keep hw) hq
    · exact h.elim
  | block id b =>
    refine wpIn_block (wpIn_mono (hS _ _ _ (Tr.sat_bind h) r n A w hr ht hm hw) ?_)
    rintro e A' w' ⟨env', xe, tm', mk', st', hsat, hw', hk', hx, ht', hm'⟩
    cases xe with
    | normal => cases e <;> first | (exact hx.elim) | exact PostC.ret hsat hw' hk' hx ht' hm'
    | exit i =>
      cases e <;> first | (exact hx.elim) | skip
      rename_i j
      have hij : i = j := hx
      subst hij
      simp only [Exit.inBlock]
      by_cases hid : i = id
      · subst hid
        simp only [Nat.beq_refl, if_true] at hsat ⊢
        exact PostC.ret hsat hw' hk' trivial (TP.of (ht'.1 rfl)) hm'
      · have hne : i.beq id = false := by
          cases hb : i.beq id with
          | true => exact absurd (Nat.eq_of_beq_eq_true hb) hid
          | false => rfl
        simp only [hne, Bool.false_eq_true, if_false] at hsat
        simp only [hid, if_false]
        exact PostC.ret hsat hw' hk' rfl ht' hm'
    | goto i => cases e <;> first | (exact hx.elim) | exact PostC.ret hsat hw' hk' hx ht' hm'
    | ret => cases e <;> first | (exact hx.elim) | exact PostC.ret hsat hw' hk' hx ht' hm'
    | pan v => cases e <;> first | (exact hx.elim) | exact PostC.ret hsat hw' hk' hx ht' hm'
  | scope b =>
    have hb := hS _ _ _ (Tr.sat_bind h) r n A w hr ht hm hw
    have hb' : b.wpIn (FW r) n C.P (fun e A' w' => PostC C Q env st w e A' w' ∧ ∀ l, e ≠ .goto l) A w := by
      refine wpIn_mono hb ?_
      rintro e A' w' ⟨env', xe, tm', mk', st', hsat, hw', hk', hx, ht', hm'⟩
      cases xe with
      | normal => cases e <;> first | (exact hx.elim) | exact ⟨PostC.ret hsat hw' hk' hx ht' hm', fun l e => by cases e⟩
      | exit i => cases e <;> first | (exact hx.elim) | exact ⟨PostC.ret hsat hw' hk' hx ht' hm', fun l e => by cases e⟩
      | goto i => exact hsat.elim
      | ret => cases e <;> first | (exact hx.elim) | exact ⟨PostC.ret hsat hw' hk' hx ht' hm', fun l e => by cases e⟩
      | pan v => cases e <;> first | (exact hx.elim) | exact ⟨PostC.ret hsat hw' hk' hx ht' hm', fun l e => by cases e⟩
    exact wpIn_mono (wpIn_scope hb' (fun l a' w' hq => hq.2 l rfl)) fun e A' w' hq => hq.1
  | loop b => exact wpIn_loop_rounds 200 (loopRun_ok hS hr hw 200 h ht hm hw hkr)
  | region id ops draw =>
    cases draw with
    | false =>
      simp only [stepX] at h
      split at h
      · exact wpIn_region (runOps_ok hT hS hw _ h hw ht hm hkr)
      · rename_i n0 o c hd
        cases ro with
        | true => exact h.elim
        | false =>
          have hrn : r = none := by cases r <;> first | rfl | cases hr
          subst hrn
          obtain ⟨hsz, hop, hoc, hg⟩ := deferOf_ok hd
          refine wpIn_region ?_
          rw [hsz, List.range_succ]
          refine runOps_gen hT hS hw (l2 := [n0]) (fun {tm st2 env2 A w2} h2 hw2 ht2 hm2 hk2 => ?_) _ h hw ht hm hkr
          split at h2
          · rename_i f hcal
            split at h2
            · rename_i f' first cap args hf hargs
              obtain ⟨as, cs, has, hcs, he⟩ := AV.den_func (evO_ok ht2 hf)
              have hargs' := evOs_ok ht2 hargs
              have hwant : Region.wanted o (yielded ops A.tmps) = true := by simp [Region.wanted, hg]
              simp only [wpOpsIn, hop, hwant, if_true]
              refine ⟨fun _ _ => trivial, ?_⟩
              have hrun : (o.semAt (FW none).round A.eval).run C.P w2 = .ok (.defer { target := .fn (.func f') cs.toArray, args := as.toArray ++ (c.args.map A.eval) }) w2 := by
                simp only [FW, Oper.semAt_none, execOp, hoc, resolve, hcal, he, Deferred.ofValue, Sem.run_bind, Sem.run_pure, Result.andThen_ok]
              rw [hrun]
              simp only [Oper.uponIn_defer]
              refine ⟨env2, .normal, _, _, st2, h2, hw2, hk2, trivial, TP.of ?_, ?_⟩
              · exact TRel.put (a := { A with defers := { target := .fn (.func f') cs.toArray, args := as.toArray ++ (c.args.map A.eval) } :: A.defers }) ht2 (undefA_den env2) o.dst
              · rw [put_defers]
                exact ⟨⟨_, _, rfl, by simpa using AV.dens_append (AV.dens_append has hargs') hcs⟩, hm2⟩
            · exact h2.elim
          · exact h2.elim
    | true => exact hD rec hS id ops mk tm st env Q h r n A w ht hm hw
  | rangeFunc g ps asg bd =>
    simp only [stepX] at h
    split at h
    · rename_i f first cap hg
      have hrn : r = none := by cases r <;> first | rfl | cases hr
      subst hrn
      obtain ⟨as, cs, has, hcs, he⟩ := AV.den_func (evO_ok ht hg)
      obtain ⟨tvs, htvs, htm⟩ := ht
      -- the two blocks
      obtain ⟨hw1, hk1, ha1⟩ := hw.newBlock (ao := .marks) (ob := .deferred (some [])) (fun _ _ => rfl)
      refine wpIn_rangeFunc fun fn _ => ?_
      obtain ⟨hw2, hk2, ha2⟩ := hw1.newBlock (ao := .loop .ready none tm ps.toList asg bd) (ob := .loop { state := .ready, pending := none, fn, tmps := A.tmps, params := ps, assign := asg, body := bd, defers := w.heap.size })
        (fun env' hp => ⟨fn, tvs, w.heap.size, AV.dens_mono ((List.prefix_append _ _).trans hp) _ htvs, by rw [htm]⟩)
      have hsat := h w.heap.size
      have hsat := hsat (w.alloc (.deferred (some []))).heap.size
      have hbind := Tr.sat_bind hsat
      obtain ⟨hent, hcall⟩ := hS _ _ _ hbind
      have hp12 := hk1.pre.trans hk2.pre
      have hargs : AV.dens ((env ++ [[.a w.heap.size]]) ++ [[.a (w.alloc (.deferred (some []))).heap.size]]) (first ++ [.yield (st.nb + 1)] ++ cap) = some ((as ++ [Value.func (.yield (w.alloc (.deferred (some []))).heap.size) #[] #[]]) ++ cs) := by
        refine AV.dens_append (AV.dens_append (AV.dens_mono hp12 _ has) ?_) (AV.dens_mono hp12 _ hcs)
        simp only [AV.dens, AV.den]
        have : addr ((env ++ [[.a w.heap.size]]) ++ [[.a (w.alloc (.deferred (some []))).heap.size]]) (st.nb + 1) = some (w.alloc (.deferred (some []))).heap.size := ha2
        rw [this]
      refine ⟨w.heap.size + 1, [mark w.heap.size], ((w.alloc (.deferred (some []))).alloc (.loop { state := .ready, pending := none, fn, tmps := A.tmps, params := ps, assign := asg, body := bd, defers := w.heap.size })), { target := .fn (.func f) cs.toArray, args := as.toArray ++ #[.func (.yield (w.heap.size + 1)) #[] #[]] }, ((w.alloc (.deferred (some []))).alloc (.loop { state := .ready, pending := none, fn, tmps := A.tmps, params := ps, assign := asg, body := bd, defers := w.heap.size })), f, ((as ++ [Value.func (.yield (w.alloc (.deferred (some []))).heap.size) #[] #[]]) ++ cs).toArray, ((w.alloc (.deferred (some []))).alloc (.loop { state := .ready, pending := none, fn, tmps := A.tmps, params := ps, assign := asg, body := bd, defers := w.heap.size })), run_enterLoop_outer fn A.tmps ps asg bd, ?_, fun _ _ => trivial, ?_, fun hd => (by simp [FW, Fence.wide] at hd), ?_⟩
      · simp only [resolve, he, Deferred.ofValue, Sem.run_pure]
        simp [Act.eval]
      · have := hT.enters f hent ((as ++ [Value.func (.yield (w.alloc (.deferred (some []))).heap.size) #[] #[]]) ++ cs).toArray ((w.alloc (.deferred (some []))).alloc (.loop { state := .ready, pending := none, fn, tmps := A.tmps, params := ps, assign := asg, body := bd, defers := w.heap.size }))
        rw [← this]
        simp [invoke]
      · refine (callsIn_FW (r := none) (hcall (n - 1) _ _ hargs hw2)).mono ?_
        rintro e w3 ⟨env', rv, st1, hq, hw3, hk3, hr3⟩
        have hk13 := Keep.trans hw hw2 (Keep.trans hw hw1 hk1 hk2) hk3
        have ha1' := addr_mono (hk2.pre.trans hk3.pre) ha1
        have hm' : MRel env' (.mark st.nb :: mk) ([mark w.heap.size] ++ A.defers) := ⟨⟨_, ha1', rfl⟩, hm.mono hk13.pre⟩
        have ht' : TRel env' tm A.tmps := ⟨tvs, AV.dens_mono hk13.pre _ htvs, htm⟩
        cases rv with
        | pan v =>
          cases e with
          | panicked ch => exact ⟨env', .pan v, tm, .mark st.nb :: mk, st1, hq, hw3, hk13, hr3, TP.of ht', hm'⟩
          | returned V => exact hr3.elim
          | outgrown => exact hr3.elim
        | ret v =>
          cases e with
          | panicked ch => exact hr3.elim
          | outgrown => exact hr3.elim
          | returned V =>
            simp only at hq
            split at hq
            · exact hq.elim
            · rename_i s pend tm' ps' asg' bd' hnb hl
              obtain ⟨k, o, g1, g2, g3, g4, g5⟩ := hw3.look hl
              obtain ⟨fn', us, d', hus, rfl⟩ := g5
              have hkk : k = w.heap.size + 1 := by
                have := addr_mono hk3.pre ha2
                simp only at this
                rw [g1] at this
                simpa using this
              subst hkk
              have hend := run_endLoop (P := C.P) g4 (fun e => by
                simp only at e
                subst e
                exact hnb rfl)
              have hupd : Upd (w.heap.size + 1) w3 (w3.putObj (w.heap.size + 1) (.loop { state := .exhausted, pending := pend, fn := fn', tmps := us.toArray, params := ps'.toArray, assign := asg', body := bd', defers := d' })) :=
                ⟨rfl, rfl, rfl, by simp, fun k hk => World.putObj_heap_other hk⟩
              have hw4 := hw3.set (a := .loop .exhausted pend tm' ps' asg' bd') hl g1 g2 (hupd.below g2 hw3.below) (World.putObj_heap_same g3) (fun j hj => hupd.block j hj) ⟨fn', us, d', hus, rfl⟩
              have hk34 : Keep env' st1 w3 env' { st1 with heap := setB st1.heap (st.nb + 1) (.loop .exhausted pend tm' ps' asg' bd') } _ := ⟨List.prefix_refl _, by rw [hupd.size]; exact Nat.le_refl _, fun j hj hn => hupd.block j (fun e => hn _ (lookB_mem hl) (e ▸ g1)), fun q hq' k hk => .inl (key_setB' hq' hk)⟩
              refine ⟨pend, _, hend, ?_⟩
              cases pend with
              | none => exact ⟨env', .normal, tm, .mark st.nb :: mk, _, hq, hw4, Keep.trans hw hw3 hk13 hk34, trivial, TP.of ht', hm'⟩
              | some c =>
                refine wpIn_mono (hS _ _ _ hq none n _ _ rfl ht' hm' hw4) fun e A2 w2 hp => PostC.trans hw hw4 (Keep.trans hw hw3 hk13 hk34) hp
            · exact hq.elim
    · exact h.elim

theorem resultsC_ok {C : Ctx} (hT : TabOk C) {env : Env} {st : St} {w : World} (hw : WRel C env st w) {tm : Tm} {tmps : Array Value} (ht : WT env tm tmps) : ∀ {l : List ResultVar} {as : List AV}, resultsC C.T st.heap tm l = some as →
    ∃ vs, AV.dens env as = some vs ∧ ∀ f : ResultVar → Sem Value, (∀ a t, f (.cell a t) = do loadVar t (← asAddr (tmps.getD a undef))) → (l.mapM f : Sem (List Value)).run C.P w = .ok vs w
  | [], as, h => by cases h; exact ⟨[], rfl, fun _ _ => rfl⟩
  | .tmp t :: l, as, h => by cases h
  | .cell a t :: l, as, h => by
    simp only [resultsC] at h
    split at h
    · rename_i p hp
      split at h
      · rename_i a' as' ha has
        cases h
        rcases ht _ _ hp with hpo | ⟨V, hd, hV⟩
        · subst hpo; simp [lopAt, poisonA] at ha
        · obtain ⟨u, hu, hrun1⟩ := lopAt_ok hT hw hd ha
          obtain ⟨vs, hvs, hrun⟩ := resultsC_ok hT hw ht has
          refine ⟨u :: vs, by simp only [AV.dens, hu, hvs], fun f h2 => ?_⟩
          have hg : tmps.getD a undef = V := by simp [hV]
          have hrun2 : (do loadVar t (← asAddr V) : Sem Value).run C.P w = .ok u w := by
            unfold lopAt at ha
            split at ha
            · obtain ⟨k, _, rfl⟩ := AV.den_ptr hd
              simpa [Instr.loadAt, Instr.sureAddr, asAddr] using hrun1
            · rename_i b off _
              have : V = .pointer (some ⟨b, off, none⟩) := by simp only [AV.den, Option.some.injEq] at hd; exact hd.symm
              subst this
              simpa [Instr.loadAt, Instr.sureAddr, asAddr] using hrun1
            · obtain ⟨k, o, c, _, rfl⟩ := AV.den_rptr hd
              simpa [Instr.loadAt, Instr.sureAddr, asAddr] using hrun1
            · cases ha
          simp only [List.mapM_cons, h2, hg]
          rw [Sem.run_bind, hrun2]
          simp only [Result.andThen_ok, Sem.run_bind, hrun f h2, Sem.run_pure]
      · cases h
    · cases h

theorem PRel.settle {env : Env} : ∀ {p : PS} {u : FrameMode}, PRel env p u → PRel env (settleX p) (settle u)
  | .ret, .returning, _ => trivial
  | .pan v, .panicking ch, ⟨V, h1, h2⟩ => by subst h2; exact ⟨V, h1, rfl⟩
  | .done v, .panicking ch, ⟨V, h1, h2⟩ => by subst h2; trivial

theorem PRel.ne_run {env : Env} : ∀ {p : PS} {u : FrameMode}, PRel env p u → u ≠ .run
  | .ret, .returning, _ => by simp
  | .pan v, .panicking ch, _ => by simp
  | .done v, .panicking ch, _ => by simp

theorem CallsDIn.mono {F : Fence} {n : Nat} {P : Program} {f : FuncId} {args : Array Value} {u : FrameMode} {w : World} {R R' : Ending → FrameMode → World → Prop} (h : CallsDIn F n P f args u w R) (hR : ∀ e u' w', R e u' w' → R' e u' w') : CallsDIn F n P f args u w R' :=
  ⟨h.1, fun c cs hc hr => let ⟨e, u', w', fr, h1, h2⟩ := h.2 c cs hc hr; ⟨e, u', w', fr, hR _ _ _ h1, h2⟩⟩

theorem leaveX_ok {C : Ctx} (hT : TabOk C) {rec : Task → Tr Out} (hS : Sound C rec) {Q : Env → Out → Prop} {fn : Func} {tm : Tm} {tmps : Array Value} {weak : Bool} {n : Nat} {env0 : Env} {st0 : St} {w0 : World} (h0 : WRel C env0 st0 w0) :
    ∀ (mk : List DI) (ds : List Deferred) (u : PS) (U : FrameMode) {env : Env} {st : St} {w : World}, (leaveX C.T rec fn.results.toList tm weak mk u st).sat C.S env Q → WRel C env st w → Keep env0 st0 w0 env st w → MRel env mk ds → PRel env u U →
      (weak = false → TRel env tm tmps) → WT env tm tmps → LeavesInM Fence.wide n C.P fn tmps (CallPost C Q env0 st0 w0) ds U w
  | [], ds, u, U, env, st, w, h, hw, hk, hm, hp, ht, hwt => by
    cases ds with
    | cons _ _ => exact hm.elim
    | nil =>
      cases u with
      | ret =>
        cases U <;> first | (exact hp.elim) | skip
        simp only [leaveX] at h
        split at h
        · rename_i as has
          cases weak with
          | false =>
            obtain ⟨V, hV, hrun⟩ := results_ok hT hw (ht rfl) has
            exact ⟨V, hrun, env, .ret (single as), st, h, hw, hk, hV⟩
          | true =>
            obtain ⟨vs, hvs, hrun⟩ := resultsC_ok hT hw hwt has
            refine ⟨singleV vs, ?_, env, .ret (single as), st, h, hw, hk, single_ok hvs⟩
            unfold results
            rw [Sem.run_bind, Array.mapM_eq_mapM_toList, Sem.run_map, hrun _ (fun _ _ => rfl)]
            simp only [Result.andThen_ok, Sem.run_pure]
            congr 1
            cases vs with
            | nil => rfl
            | cons v vs => cases vs with
              | nil => rfl
              | cons u us => simp [singleV]
        · exact h.elim
      | pan v =>
        cases U <;> first | (exact hp.elim) | skip
        exact ⟨env, .pan v, st, h, hw, hk, hp⟩
      | done v => exact h.elim
  | .mark m :: mk, ds, u, U, env, st, w, h, hw, hk, hm, hp, ht, hwt => by
    cases ds with
    | nil => exact hm.elim
    | cons d ds =>
      obtain ⟨⟨k', hk', rfl⟩, hm⟩ := hm
      simp only [leaveX] at h
      split at h
      · rename_i hl
        obtain ⟨k, o, h1, h2, h3, h4, h5⟩ := hw.look hl
        cases h5
        have ek : k = k' := by rw [h1] at hk'; simpa using hk'
        subst ek
        refine ⟨hp.ne_run, .inl ⟨k, _, rfl, run_takeDeferred h4, ?_⟩⟩
        have hupd : Upd k w (w.putObj k (.deferred none)) := ⟨rfl, rfl, rfl, by simp, fun j hj => World.putObj_heap_other hj⟩
        have hw' := hw.set (a := .dead) hl h1 h2 (hupd.below h2 hw.below) (World.putObj_heap_same h3) (fun j hj => hupd.block j hj) trivial
        have hk2 : Keep env st w env { st with heap := setB st.heap m .dead } (w.putObj k (.deferred none)) := ⟨List.prefix_refl _, by rw [hupd.size]; exact Nat.le_refl _, fun j hj hn => hupd.block j (fun e => hn _ (lookB_mem hl) (e ▸ h1)), fun q hq' k hk => .inl (key_setB' hq' hk)⟩
        exact leaveX_ok hT hS h0 mk ds u U h hw' (Keep.trans h0 hw hk hk2) hm hp ht hwt
      · exact h.elim
  | .fn f as :: mk, ds, u, U, env, st, w, h, hw, hk, hm, hp, ht, hwt => by
    cases ds with
    | nil => exact hm.elim
    | cons d ds =>
      obtain ⟨⟨a, c, rfl, hden⟩, hm⟩ := hm
      simp only [leaveX] at h
      obtain ⟨hsome, hcall⟩ := hS _ _ _ (Tr.sat_bind h)
      have hent := hT.enters f (by simp [hsome]) (a.toList ++ c.toList).toArray w
      refine ⟨hp.ne_run, .inr ⟨fun hd => (by simp [Fence.wide] at hd), .func f, c, f, (a.toList ++ c.toList).toArray, rfl, ?_, fun _ _ => trivial, ?_⟩⟩
      · rw [← hent]
        simp only [invoke]
        congr 2
        obtain ⟨a⟩ := a
        obtain ⟨c⟩ := c
        simp
      · refine (hcall (n - 1) _ w U hden hp hw).mono ?_
        rintro e u' w' ⟨env', p', st', hq, hw', hk', hp', V, rfl⟩
        exact leaveX_ok hT hS h0 mk ds (settleX p') (settle u') hq hw' (Keep.trans h0 hw hk hk') (hm.mono hk'.pre) hp'.settle (fun e => (ht e).mono hk'.pre) (hwt.mono hk'.pre)

theorem callF_ok {C : Ctx} (hT : TabOk C) (hSp : SpecsOk C) {rec : Task → Tr Out} (hS : Sound C rec) (f : Nat) (args : List AV) (st : St) (Q : Env → Out → Prop) (env : Env)
    (h : (stepX C.T rec (.callF f args st)).sat C.S env Q) : TaskOk C (.callF f args st) Q env := by
  simp only [stepX] at h
  split at h
  · rename_i sp hsp
    exact ⟨by simp [hsp], fun n vs w hvs hw => specCall_ok hSp hsp h hvs hw⟩
  · split at h
    · exact h.elim
    · rename_i fn hfn
      refine ⟨by simp [hfn], fun n vs w hvs hw => ?_⟩
      split at h
      · rename_i r hm
        exact memo_ok hSp hm h hvs hw
      split at h
      · exact h.elim
      · rename_i c hc
        have hf := hT.funs f fn hfn
        refine callsIn_of_wp_marks hf hc trivial ?_
        have hlen := AV.dens_length hvs
        have ht : TRel env (Tm.ofL args fn.ntmps) (vs.toArray ++ Array.replicate (fn.ntmps - vs.toArray.size) undef) :=
          ⟨vs ++ List.replicate (fn.ntmps - args.length) undef, by rw [Tm.ofL_toL]; exact AV.dens_append hvs (AV.dens_replicate (undefA_den env) _), by simp [hlen]⟩
        refine wpIn_mono (hS _ _ _ (Tr.sat_bind h) none n _ w rfl ht (MRel.nil env) hw) ?_
        rintro e A' w' ⟨env', xe, tm', mk', st', hsat, hw', hk', hx, ht', hm'⟩
        cases xe with
        | normal =>
          cases e <;> first | (exact hx.elim) | skip
          exact leaveX_ok hT hS hw mk' _ .ret .returning hsat hw' hk' hm' trivial (fun _ => ht'.1 rfl) ht'.2
        | ret =>
          cases e <;> first | (exact hx.elim) | skip
          exact leaveX_ok hT hS hw mk' _ .ret .returning hsat hw' hk' hm' trivial (fun _ => ht'.1 rfl) ht'.2
        | exit i => exact hsat.elim
        | goto i => exact hsat.elim
        | pan v =>
          cases e <;> first | (exact hx.elim) | skip
          rename_i ch
          exact leaveX_ok hT hS hw mk' _ (.pan v) (.panicking ch) hsat hw' hk' hm' hx (fun e => by cases e) ht'.2

theorem setTs_ok {env : Env} : ∀ {ps : List Nat} {as : List AV} {vs : List Value} {tm : Tm} {us : List Value}, AV.dens env as = some vs → AV.dens env tm.toL = some us →
    ∃ us', AV.dens env (setTs tm ps as).toL = some us' ∧ (ps.zip vs).foldl (fun (tmps : Array Value) (x : Nat × Value) => tmps.setIfInBounds x.1 x.2) us.toArray = us'.toArray
  | [], as, vs, tm, us, _, h => ⟨us, by cases as <;> exact h, rfl⟩
  | p :: ps, [], vs, tm, us, ha, h => by cases AV.dens_nil' ha; exact ⟨us, h, rfl⟩
  | p :: ps, a :: as, vs, tm, us, ha, h => by
    obtain ⟨v, vs', hv, hvs, rfl⟩ := AV.dens_cons ha
    obtain ⟨us', h1, h2⟩ := setTs_ok (ps := ps) (tm := tm.set p a) (us := us.set p v) hvs (by rw [Tm.set_toL]; exact AV.dens_set h p hv)
    refine ⟨us', h1, ?_⟩
    rw [← h2]
    simp

theorem round_ok {C : Ctx} {rec : Task → Tr Out} (hS : Sound C rec) (l : Nat) (args : List AV) (st : St) (Q : Env → Out → Prop) (env : Env)
    (h : (stepX C.T rec (.round l args st)).sat C.S env Q) : TaskOk C (.round l args st) Q env := by
  intro n vs w hvs hw k hk
  simp only [stepX] at h
  split at h
  · rename_i p0 tm ps asg bd hl
    obtain ⟨k', o, h1, h2, h3, h4, h5⟩ := hw.look hl
    rw [hk] at h1; cases h1
    obtain ⟨fn, us, d, hus, rfl⟩ := h5
    split at h
    · exact h.elim
    · rename_i hlen
      have hlen := Nat.eq_of_beq_eq_true hlen
      have hvl := AV.dens_length hvs
      refine ⟨_, h4, by simp; omega, ?_⟩
      obtain ⟨us', hus', hfold⟩ := setTs_ok (ps := ps) hvs hus
      have ht : TRel env (setTs tm ps args) ((ps.toArray.zip vs.toArray).foldl (fun tmps (t, a) => tmps.setIfInBounds t a) us.toArray) := by
        refine ⟨us', hus', ?_⟩
        rw [← hfold]
        simp
      refine roundIn_of_wpIn trivial ?_
      show asg.wpIn (FW (some k)) n C.P _ _ w
      refine wpIn_mono (hS _ _ _ (Tr.sat_bind h) (some k) n { tmps := (ps.toArray.zip vs.toArray).foldl (fun tmps (t, a) => tmps.setIfInBounds t a) us.toArray, defers := [] } w rfl ht (MRel.nil env) hw) ?_
      rintro e A1 w1 ⟨env1, xe, tm1, mk1, st1, hsat, hw1, hk1, hx, ht1, hm1⟩
      cases xe with
      | exit i => exact hsat.elim
      | goto i => exact hsat.elim
      | ret => exact hsat.elim
      | pan v => exact hsat.elim
      | normal =>
        cases e <;> first | (exact hx.elim) | skip
        cases mk1 with
        | cons a b => exact hsat.elim
        | nil =>
          simp only at hsat
          split at hsat
          · rename_i p1 tm2 ps2 asg2 bd2 hl1
            obtain ⟨k1, o1, g1, g2, g3, g4, g5⟩ := hw1.look hl1
            have hkk := addr_mono hk1.pre hk
            rw [g1] at hkk; cases hkk
            obtain ⟨fn1, us1, d1, hus1, rfl⟩ := g5
            have hbr := run_beginRound (P := C.P) g4 rfl
            refine ⟨_, hbr, ?_⟩
            have hupd : Upd k w1 (w1.putObj k (.loop { state := .busy, pending := p1, fn := fn1, tmps := us1.toArray, params := ps2.toArray, assign := asg2, body := bd2, defers := d1 })) := ⟨rfl, rfl, rfl, by simp, fun j hj => World.putObj_heap_other hj⟩
            have hw2 := hw1.set (a := .loop .busy p1 tm2 ps2 asg2 bd2) hl1 g1 g2 (hupd.below g2 hw1.below) (World.putObj_heap_same g3) (fun j hj => hupd.block j hj) ⟨fn1, us1, d1, hus1, rfl⟩
            have hk12 : Keep env1 st1 w1 env1 { st1 with heap := setB st1.heap l (.loop .busy p1 tm2 ps2 asg2 bd2) } _ := ⟨List.prefix_refl _, by rw [hupd.size]; exact Nat.le_refl _, fun j hj hn => hupd.block j (fun e => hn _ (lookB_mem hl1) (e ▸ g1)), fun q hq' k hk => .inl (key_setB' hq' hk)⟩
            have hkk2 := Keep.trans hw hw1 hk1 hk12
            show bd.wpIn (FW (some k)) n C.P _ A1 _
            refine wpIn_mono (hS _ _ _ (Tr.sat_bind hsat) (some k) n A1 _ rfl (ht1.1 rfl) hm1 hw2) ?_
            rintro e2 A2 w3 ⟨env3, xe2, tm3, mk3, st3, hsat3, hw3, hk3, hx3, ht3, hm3⟩
            have hkk3 := Keep.trans hw hw2 hkk2 hk3
            simp only at hsat3
            split at hsat3
            · rename_i s4 p4 tm4 ps4 asg4 bd4 j hl3 hj
              obtain ⟨k3, o3, f1, f2, f3, f4, f5⟩ := hw3.look hl3
              have hkk4 := addr_mono (hk1.pre.trans hk3.pre) hk
              rw [f1] at hkk4; cases hkk4
              obtain ⟨fn4, us4, d4, hus4, rfl⟩ := f5
              have fin : ∃ v w', (Instr.endRound k j).run C.P w3 = .ok v w' ∧ CallPost C Q env st w (.returned v) w' := by
                have her := run_endRound (P := C.P) j f4
                refine ⟨_, _, her, ?_⟩
                have hupd4 : Upd k w3 (w3.putObj k (.loop { state := if j.isNone then .ready else .done, pending := j, fn := fn4, tmps := us4.toArray, params := ps4.toArray, assign := asg4, body := bd4, defers := d4 })) := ⟨rfl, rfl, rfl, by simp, fun j hj => World.putObj_heap_other hj⟩
                have hw4 := hw3.set (a := .loop (if j.isNone then .ready else .done) j tm4 ps4 asg4 bd4) hl3 f1 f2 (hupd4.below f2 hw3.below) (World.putObj_heap_same f3) (fun i hi => hupd4.block i hi) ⟨fn4, us4, d4, hus4, rfl⟩
                have hk34 : Keep env3 st3 w3 env3 { st3 with heap := setB st3.heap l (.loop (if j.isNone then .ready else .done) j tm4 ps4 asg4 bd4) } _ := ⟨List.prefix_refl _, by rw [hupd4.size]; exact Nat.le_refl _, fun i hi hn => hupd4.block i (fun e => hn _ (lookB_mem hl3) (e ▸ f1)), fun q hq' k hk => .inl (key_setB' hq' hk)⟩
                exact ⟨env3, _, _, hsat3, hw4, Keep.trans hw hw3 hkk3 hk34, rfl⟩
              cases xe2 with
              | normal => cases e2 <;> first | (exact hx3.elim) | (cases hj; exact fin)
              | ret => cases e2 <;> first | (exact hx3.elim) | (cases hj; exact fin)
              | exit i => cases e2 <;> first | (exact hx3.elim) | (have hi : i = _ := hx3; subst hi; cases hj; exact fin)
              | goto i => cases e2 <;> first | (exact hx3.elim) | (have hi : i = _ := hx3; subst hi; cases hj; exact fin)
              | pan v => cases hj
            · exact hsat3.elim
          · exact hsat.elim
  · exact h.elim

/-- THE EXECUTOR IS SOUND. -/
theorem wpSIn_mono {F : Fence} {n : Nat} {P : Program} {c : Code} {Q Q' : Exit → Act → List Frame → World → Prop} {a : Act} {cs : List Frame} {w : World} (h : c.wpSIn F n P Q a cs w) (hq : ∀ e a' cs' w', Q e a' cs' w' → Q' e a' cs' w') : c.wpSIn F n P Q' a cs w :=
  fun b k h1 h2 h3 h4 => let ⟨e, a', cs', w', l, q, r⟩ := h b k h1 h2 h3 h4; ⟨e, a', cs', w', l, hq _ _ _ _ q, r⟩

theorem opRec_ok {P : Program} {o : Oper} {ρ : Operand → Value} {w : World} (h : opRec o.op = true) : (execOp ρ o).run P w = .ok .recover w := by
  obtain ⟨dst, op, type, pos, after, guard⟩ := o
  cases op <;> simp only [opRec] at h <;> first
    | (cases h; done)
    | skip
  rename_i c
  obtain ⟨callee, args, ts⟩ := c
  simp only at h
  split at h
  · rename_i hc

    simp [execOp, resolve, invoke, builtin]
  · cases h

/-- A region that begins with a recover: what is behind it runs as ever, the frames below being what the recover made of them. -/
theorem wpSIn_recover {F : Fence} {n : Nat} {P : Program} {Q : Exit → Act → List Frame → World → Prop} {id : Nat} {ops : Array Oper} {o : Oper} {a : Act} {cs cs' : List Frame} {v : Value} {w : World} (hro : F.round = none) (ho : ops[0]? = some o) (hop : opRec o.op = true) (hg : o.guard = none)
    (hlead : ∀ f, o.about P w a.eval = some f → F.fn f) (hrec : (recoverD cs = some (v, cs')) ∨ (recoverD cs = none ∧ v = .nilIface ∧ cs' = cs)) (h : wpOpsIn F n P ops (fun e a' w' => Q e a' cs' w') (List.range' 1 (ops.size - 1)) (a.put o.dst v) w) : (Code.region id ops false).wpSIn F n P Q a cs w := by
  intro b k hb hr hF hroom
  have hlen : cs'.length = cs.length := by
    rcases hrec with h1 | ⟨_, _, rfl⟩
    · exact recoverD_length h1
    · rfl
  obtain ⟨e, a', w', hq, harr⟩ := wp_opsIn (List.range' 1 (ops.size - 1)) _ w h b k cs' (hr.trans hro.symm) hF (hlen ▸ hroom)
  refine ⟨e, a', cs', w', hlen, hq, ?_⟩
  have hsz : 0 < ops.size := (Array.getElem?_eq_some_iff.1 ho).1
  have hrange : List.range ops.size = 0 :: List.range' 1 (ops.size - 1) := by
    rw [List.range_eq_range']
    obtain ⟨m, hm⟩ : ∃ m, ops.size = m + 1 := ⟨ops.size - 1, by omega⟩
    rw [hm, List.range'_succ]; simp
  have hwant : Region.wanted o (yielded ops a.tmps) = true := by simp [Region.wanted, hg]
  have i0 : (lone (b.atR a (.inRegion ops (0 :: List.range' 1 (ops.size - 1)) :: k)) cs w).fenced P F := fenced_oper hF hroom ho hlead
  have hgo := stepGR_op (P := P) (b := b) (k := k) (cs := cs) (w := w) (rest := List.range' 1 (ops.size - 1)) ho hwant
  rw [hr, Oper.semAt_none] at hgo
  have hfin : (b.atR a (.inRegion ops (0 :: List.range' 1 (ops.size - 1)) :: k)).finish v = b.atR (a.put o.dst v) (.inRegion ops (List.range' 1 (ops.size - 1)) :: k) := by rw [Frame.finish_atR, ho]; rfl
  have hkind : (b.atR a (.inRegion ops (0 :: List.range' 1 (ops.size - 1)) :: k)).kind = .deferred := hb
  have htry := tryRecover_deferred hkind cs
  have hstep : step P (lone (b.atR a (.inRegion ops (0 :: List.range' 1 (ops.size - 1)) :: k)) cs w) = .next (lone (b.atR (a.put o.dst v) (.inRegion ops (List.range' 1 (ops.size - 1)) :: k)) cs' w) := by
    refine step_lone_go ?_
    rw [hgo, ← hfin]
    simp only [Frame.atR, hr] at htry ⊢
    rcases hrec with h1 | ⟨h1, rfl, rfl⟩
    · simp [stepG.apply, opRec_ok hop, htry, h1]
    · simp [stepG.apply, opRec_ok hop, htry, h1]
  have i1 : (lone (b.atR a (.code (.region id ops false) :: k)) cs w).fenced P F := fenced_calm hF hroom rfl
  have s1 := stepR_region (P := P) (b := b) (a := a) (k := k) (cs := cs) (w := w) (id := id) (ops := ops)
  rw [hrange] at s1
  exact .of_steps (.head i1 s1 (.one i0 hstep)) harr

theorem codeS_ok {C : Ctx} (hT : TabOk C) {rec : Task → Tr Out} (hS : Sound C rec) (p : PS) (c : Code) (tm : Tm) (st : St) (Q : Env → Out → Prop) (env : Env)
    (h : (stepX C.T rec (.codeS p c tm st)).sat C.S env Q) : TaskOk C (.codeS p c tm st) Q env := by
  intro n A w c₀ cs hp ht hd hw
  simp only [stepX] at h
  split at h
  · refine wpSIn_of_wpIn rfl ?_
    refine wpIn_mono (hS _ _ _ (Tr.sat_bind h) none n A w rfl ht (by rw [hd]; trivial) hw) ?_
    rintro e A' w' ⟨env', xe, tm', mk', st', hsat, hw', hk', hx, ht', hm'⟩
    cases mk' with
    | cons _ _ => exact hsat.elim
    | nil =>
      have hd' : A'.defers = [] := by
        cases hda : A'.defers with
        | nil => rfl
        | cons _ _ => rw [hda] at hm'; exact hm'.elim
      cases xe with
      | pan v => exact hsat.elim
      | normal => exact ⟨env', p, _, tm', st', c₀.mode, hsat, hw', hk', hx, rfl, ht'.1 rfl, hd', hp.mono hk'.pre, rfl⟩
      | exit i => exact ⟨env', p, _, tm', st', c₀.mode, hsat, hw', hk', hx, rfl, ht'.1 rfl, hd', hp.mono hk'.pre, rfl⟩
      | goto i => exact ⟨env', p, _, tm', st', c₀.mode, hsat, hw', hk', hx, rfl, ht'.1 rfl, hd', hp.mono hk'.pre, rfl⟩
      | ret => exact ⟨env', p, _, tm', st', c₀.mode, hsat, hw', hk', hx, rfl, ht'.1 rfl, hd', hp.mono hk'.pre, rfl⟩
  · split at h
    · rename_i a b
      refine wpSIn_seq (wpSIn_mono (hS _ _ _ (Tr.sat_bind h) n A w c₀ cs hp ht hd hw) ?_)
      rintro e A' cs' w' ⟨env', p', xe, tm', st', U', hsat, hw', hk', hx, hnp, ht', hd', hp', rfl⟩
      cases xe with
      | normal =>
        cases e <;> first | (exact hx.elim) | skip
        exact wpSIn_mono (hS _ _ _ hsat n A' w' { c₀ with mode := U' } cs hp' ht' hd' hw') fun e a2 cs2 w2 hq => PostS.trans hw hw' hk' hq
      | exit i => cases e <;> first | (exact hx.elim) | exact ⟨env', p', _, tm', st', U', hsat, hw', hk', hx, rfl, ht', hd', hp', rfl⟩
      | goto i => cases e <;> first | (exact hx.elim) | exact ⟨env', p', _, tm', st', U', hsat, hw', hk', hx, rfl, ht', hd', hp', rfl⟩
      | ret => cases e <;> first | (exact hx.elim) | exact ⟨env', p', _, tm', st', U', hsat, hw', hk', hx, rfl, ht', hd', hp', rfl⟩
      | pan v => cases hnp
    · rename_i id ops hnr
      split at h
      · rename_i o ho
        have hro : ops[0]? = some o ∧ opRec o.op = true ∧ o.guard = none := by
          unfold recAt at ho
          split at ho
          · rename_i o' ho'
            split at ho
            · rename_i h1 h2
              cases ho
              exact ⟨ho', h1, h2⟩
            · cases ho
          · cases ho
        obtain ⟨g1, g2, g3⟩ := hro
        have hrv : ∃ V U', (recAV p).den env = some V ∧ PRel env (recPS p) U' ∧ ((recoverD (c₀ :: cs) = some (V, { c₀ with mode := U' } :: cs)) ∨ (recoverD (c₀ :: cs) = none ∧ V = .nilIface ∧ { c₀ with mode := U' } :: cs = c₀ :: cs)) := by
          cases p with
          | pan v =>
            cases hm : c₀.mode <;> rw [hm] at hp <;> first | (exact hp.elim) | skip
            obtain ⟨V, hV, rfl⟩ := hp
            exact ⟨V, .panicking [{ v := V, recovered := true }], hV, ⟨V, hV, rfl⟩, .inl (by simp only [recoverD, hm])⟩
          | ret =>
            refine ⟨.nilIface, c₀.mode, by simp only [recAV, AV.den], hp, .inr ⟨?_, rfl, rfl⟩⟩
            cases hm : c₀.mode <;> rw [hm] at hp <;> first | (exact hp.elim) | simp only [recoverD, hm]
          | done v =>
            refine ⟨.nilIface, c₀.mode, by simp only [recAV, AV.den], hp, .inr ⟨?_, rfl, rfl⟩⟩
            cases hm : c₀.mode <;> rw [hm] at hp <;> first | (exact hp.elim) | skip
            obtain ⟨V, hV, rfl⟩ := hp
            simp only [recoverD, hm]
        obtain ⟨V, U', hV, hU, hrec⟩ := hrv
        refine wpSIn_recover (v := V) (cs' := { c₀ with mode := U' } :: cs) rfl g1 g2 g3 (fun _ _ => trivial) hrec ?_
        refine runOps_any hT hS (r := none) (n := n) hw (ds := []) (kp := fun _ _ _ => .fail 84) (kok := fun tm st => .ret (.codeS (recPS p) .normal tm st)) (Q := Q) (env0 := env) (st0 := st) ?_ ?_ _ h hw (ht.put hV _) (by rw [put_defers]; exact hd) (Keep.refl hw)
        · intro tm2 st2 env2 A2 w2 h2 hw2 ht2 hd2 hk2
          exact ⟨env2, recPS p, .normal, tm2, st2, U', h2, hw2, hk2, trivial, rfl, ht2, hd2, hU.mono hk2.pre, rfl⟩
        · intro v2 tm2 st2 env2 A2 w2 V2 h2 _ _ _ _
          exact h2.elim
      · exact h.elim
    · exact h.elim

theorem deferF_ok {C : Ctx} (hT : TabOk C) {rec : Task → Tr Out} (hS : Sound C rec) (f : Nat) (args : List AV) (p : PS) (st : St) (Q : Env → Out → Prop) (env : Env)
    (h : (stepX C.T rec (.deferF f args p st)).sat C.S env Q) : TaskOk C (.deferF f args p st) Q env := by
  simp only [stepX] at h
  split at h
  · exact h.elim
  · rename_i fn hfn
    refine ⟨by simp [hfn], fun n vs w U hvs hp hw => ?_⟩
    split at h
    · exact h.elim
    · rename_i c hc
      have hf := hT.funs f fn hfn
      have hlen := AV.dens_length hvs
      have ht : TRel env (Tm.ofL args fn.ntmps) (vs.toArray ++ Array.replicate (fn.ntmps - vs.toArray.size) undef) :=
        ⟨vs ++ List.replicate (fn.ntmps - args.length) undef, by rw [Tm.ofL_toL]; exact AV.dens_append hvs (AV.dens_replicate (undefA_den env) _), by simp [hlen]⟩
      refine callsDIn_of_wpSIn hf hc trivial fun c₀ cs hu => ?_
      refine wpSIn_mono (hS _ _ _ (Tr.sat_bind h) n _ w c₀ cs (by rw [hu]; exact hp) ht rfl hw) ?_
      rintro e A' cs' w' ⟨env', p', xe, tm', st', U', hsat, hw', hk', hx, hnp, ht', hd', hp', rfl⟩
      cases xe with
      | normal =>
        cases e <;> first | (exact hx.elim) | skip
        simp only at hsat
        split at hsat
        · rename_i as has
          obtain ⟨V, hV, hrun⟩ := results_ok hT hw' ht' has
          exact ⟨hd', U', rfl, V, hrun, env', p', st', hsat, hw', hk', hp', V, rfl⟩
        · exact hsat.elim
      | ret =>
        cases e <;> first | (exact hx.elim) | skip
        simp only at hsat
        split at hsat
        · rename_i as has
          obtain ⟨V, hV, hrun⟩ := results_ok hT hw' ht' has
          exact ⟨hd', U', rfl, V, hrun, env', p', st', hsat, hw', hk', hp', V, rfl⟩
        · exact hsat.elim
      | exit i => exact hsat.elim
      | goto i => exact hsat.elim
      | pan v => cases hnp

theorem exec_ok {C : Ctx} (hT : TabOk C) (hSp : SpecsOk C) (hD : DrawOk C) : ∀ n, Sound C (exec C.T n)
  | 0 => fun _ _ _ h => h.elim
  | n + 1 => by
    have hS := exec_ok hT hSp hD n
    intro t Q env h
    cases t with
    | code ro c tm mk st => exact code_ok hT hD hS ro c tm mk st Q env h
    | callF f args st => exact callF_ok hT hSp hS f args st Q env h
    | codeS p c tm st => exact codeS_ok hT hS p c tm st Q env h
    | deferF f args p st => exact deferF_ok hT hS f args p st Q env h
    | round l args st => exact round_ok hS l args st Q env h

end Go.Ex
