/- States: the reference's l27Set, its walk. -/
import Derived.Test.YtjeklbhdngkngaaStSetM
namespace Go.Proofs.Ytjeklbhdngkngaa
open Go.RowKit
set_option linter.unusedVariables false

theorem own_snoc {w : World} {B : Nat} {v : Value} {l l2 : List DSetting} {e : DSetting} (h2 : l2 = l ++ [e]) (h : w.ownsRow B 95 2 v (l.length + 1) ((l.map DSetting.cells).flatten ++ #[Value.string e.fName, Value.int .i64 e.fValue].toList)) : w.ownsRow B 95 2 v l2.length (l2.map DSetting.cells).flatten := by
  subst h2
  have e1 : ((l ++ [e]).map DSetting.cells).flatten = (l.map DSetting.cells).flatten ++ #[Value.string e.fName, Value.int .i64 e.fValue].toList := by simp [DSetting.cells]
  rw [e1, List.length_append]
  exact h

/-- below, and large enough -/
structure BelowS (B : Nat) (w w' : World) : Prop where
  below : Below B w w'
  size' : B ≤ w'.heap.size
theorem below_szz {B : Nat} {w w' w1 : World} (h : Below B w w') (hz : w1.heap.size < w'.heap.size) (hB : B ≤ w1.heap.size := by first | assumption | omega) : BelowS B w w' := ⟨h, by omega⟩
theorem BelowS.drewN {B : Nat} {w w' : World} (h : BelowS B w w') (n : Nat) : BelowS B w (w'.drewN n) := ⟨below_drewN' h.below n, h.size'⟩

set_option maxHeartbeats 3200000 in
set_option maxRecDepth 100000 in
theorem l27Set_ok (A : Option Addr) (c : Nat) (xs : List DSetting) (e : DSetting) (w : World) (hA : RowsAt w 2 A (xs.map DSetting.cells)) (hn : xs.length ≤ 1000) :
    Calls Try.prog 74 #[.slice A xs.length c, .agg #[.string e.fName, .int .i64 e.fValue]] w fun en w' => (∃ g c', en = .returned (.slice (some ⟨g, 0, none⟩) (setS xs e).length c') ∧ w'.ownsRow w.heap.size 95 2 (.slice (some ⟨g, 0, none⟩) (setS xs e).length c') (setS xs e).length ((setS xs e).map DSetting.cells).flatten) ∧ Below w.heap.size w w' := by
  have HA := hid (hA.below (below_alloc w (.cells #[.string e.fName, .int .i64 e.fValue] 95)))
  have z1 : (w.alloc (.cells #[.string e.fName, .int .i64 e.fValue] 95)).heap.size = w.heap.size + 1 := by simp
  have NC0 := HasC.new w [.string e.fName, .int .i64 e.fValue] 95
  have NC := hid (And.intro (NC0.2 0 _ rfl) (NC0.2 1 _ rfl))
  have hbx : w.heap.size < w.heap.size + 1 := by omega
  have Z1 := hid z1
  clear hA NC0
  go_enter Try.func74, Try.ntmps74
  go_wp2_with fail
  go_loopw [5, 6, 7] (fun v d m wr => ∃ (k g cc : Nat), k ≤ xs.length ∧ m = .int .i64 k ∧ d = .bool (setTo xs e k).2 ∧ v = .slice (some ⟨g, 0, none⟩) (setTo xs e k).1.length cc ∧ wr.ownsRow (w.heap.size + 1) 95 2 (.slice (some ⟨g, 0, none⟩) (setTo xs e k).1.length cc) (setTo xs e k).1.length ((setTo xs e k).1.map DSetting.cells).flatten ∧ BelowS (w.heap.size + 1) (w.alloc (.cells #[.string e.fName, .int .i64 e.fValue] 95)) wr) (fun _ _ m _ => xs.length - (intOf m).toNat)
  case atStart =>
    refine ⟨0, w.heap.size + 1, 0, Nat.zero_le _, rfl, rfl, rfl, ?_, ?_⟩
    · have h : ((w.alloc (.cells #[.string e.fName, .int .i64 e.fValue] 95)).alloc (.cells #[] 95)).ownsRow (w.alloc (.cells #[.string e.fName, .int .i64 e.fValue] 95)).heap.size 95 2 (.slice (some ⟨(w.alloc (.cells #[.string e.fName, .int .i64 e.fValue] 95)).heap.size, 0, none⟩) 0 0) 0 ([] : List Value) := World.ownsRow_lit _ _ 0 (Nat.le_refl _) (by unfold maxLen; omega) rfl
      rw [Z1.out] at h
      exact h
    · have h := below_alloc (w.alloc (.cells #[.string e.fName, .int .i64 e.fValue] 95)) (.cells #[] 95)
      rw [Z1.out] at h
      exact ⟨h, by have := h.size; omega⟩
  case round =>
    obtain ⟨k, g, cc, hk, rfl, rfl, rfl, hown, hbel⟩ := hrel
    have hl2k := setTo_len (xs := xs) (e := e) k
    obtain ⟨⟨l, d⟩, hr⟩ : ∃ r, r = setTo xs e k := ⟨_, rfl⟩
    have HR := hid hr
    rw [← hr] at hown hl2k
    rw [← hr]
    dsimp only at hown hl2k ⊢
    clear hr
    have OD := hid (show ∀ m, (World.drewN wr m).ownsRow (w.heap.size + 1) 95 2 (.slice (some ⟨g, 0, none⟩) l.length cc) l.length (l.map DSetting.cells).flatten from fun _ => hown)
    have HBS := hid hbel
    have hBw := hbel.size'
    clear hown hbel
    by_cases hkl : k < xs.length
    · have HST := hid (show setTo xs e (k + 1) = setStep e xs[k] (l, d) by rw [setTo_succ hkl, ← HR.out])
      have hne : xs.map DSetting.cells ≠ [] := by intro e; rw [List.map_eq_nil_iff] at e; rw [e] at hkl; exact absurd hkl (by simp)
      obtain ⟨b, o, rfl, hlt, hc⟩ := HA.out hne
      have HC := hid hc
      have hc0 : (w.alloc (.cells #[.string e.fName, .int .i64 e.fValue] 95)).cell? ⟨b, o + k * 2, none⟩ = some (.string xs[k].fName) := HC.out k _ (by rw [List.getElem?_map, List.getElem?_eq_getElem hkl]; rfl) 0 _ rfl
      have hc1 : (w.alloc (.cells #[.string e.fName, .int .i64 e.fValue] 95)).cell? ⟨b, o + k * 2 + 1, none⟩ = some (.int .i64 xs[k].fValue) := HC.out k _ (by rw [List.getElem?_map, List.getElem?_eq_getElem hkl]; rfl) 1 _ rfl
      have q0 : (0 : Int) ≤ (k : Int) := by omega
      have q1 : (k : Int) < xs.length := by omega
      clear hc hne
      have hlb : b < w.heap.size + 1 := by omega
      have x0 := (HBS.out.below.cell (p := ⟨b, o + k * 2, none⟩) hlb).trans hc0
      have x1 := (HBS.out.below.cell (p := ⟨b, o + k * 2 + 1, none⟩) hlb).trans hc1
      have f0 := (HBS.out.below.cell (p := ⟨w.heap.size, 0, none⟩) hbx).trans NC.out.1
      have f1 := (HBS.out.below.cell (p := ⟨w.heap.size, 1, none⟩) hbx).trans NC.out.2
      cases d
      · cases bl : Op.bytesLess xs[k].fName.toList e.fName.toList
        · skip
          cases q : (xs[k].fName.toList == e.fName.toList)
          · skip
            have HE := hid (show setTo xs e (k + 1) = (l ++ [e] ++ [xs[k]], true) by rw [HST.out]; simp [setStep, bl, q])
            go_wp2_with fail
            go_quiet (fail)
            go_wp2_with (at_builtin; refine wpList_app (w0 := (w.alloc (.cells #[.string e.fName, .int .i64 e.fValue] 95))) rfl (.tmp 27) (.tmp 29) 24 rfl (w.heap.size + 1) 95 (.agg #[.string ⟨#[]⟩, .int .i64 0]) 2 24 Try.underlying24 infoSetting rfl (by decide) _ _ _ rfl (OD.out _) #[.string e.fName, .int .i64 e.fValue] 1 1 (by simp [Act.eval]) rfl (by simp [Value.oneCell']) (by omega) (HBS.out.drewN _).size' (HBS.out.drewN _).below ?_; intro v6 w6 hown6 hbel6 hz6 _; obtain ⟨l2, hl2⟩ : ∃ t, t = l ++ [e] := ⟨_, rfl⟩; have howns6 := own_snoc hl2 hown6; have hnl2 : l2.length ≤ l.length + 1 := (by rw [hl2]; simp); have hpl2 : 0 < l2.length := (by rw [hl2]; simp); obtain ⟨g6, c6, rfl, _⟩ := own_form howns6 (by omega); have O6 := hid (show ∀ m, (World.drewN w6 m).ownsRow (w.heap.size + 1) 95 2 (.slice (some ⟨g6, 0, none⟩) l2.length c6) l2.length (l2.map DSetting.cells).flatten from fun _ => howns6); have B6 := hid (below_szz hbel6 hz6); have hBw6 := B6.out.size'; have Hl2 := hid hl2; have x0 := (B6.out.below.cell (p := ⟨b, o + k * 2, none⟩) hlb).trans hc0; have x1 := (B6.out.below.cell (p := ⟨b, o + k * 2 + 1, none⟩) hlb).trans hc1; have f0 := (B6.out.below.cell (p := ⟨w.heap.size, 0, none⟩) hbx).trans NC.out.1; have f1 := (B6.out.below.cell (p := ⟨w.heap.size, 1, none⟩) hbx).trans NC.out.2; clear howns6 hown6 hbel6 hl2)
            go_quiet (fail)
            go_wp2_with (at_builtin; refine wpList_app (w0 := (w.alloc (.cells #[.string e.fName, .int .i64 e.fValue] 95))) rfl (.tmp 39) (.tmp 44) 24 rfl (w.heap.size + 1) 95 (.agg #[.string ⟨#[]⟩, .int .i64 0]) 2 24 Try.underlying24 infoSetting rfl (by decide) _ _ _ rfl (O6.out _) #[.string xs[k].fName, .int .i64 xs[k].fValue] 1 1 (by simp [Act.eval]) rfl (by simp [Value.oneCell']) (by omega) (B6.out.drewN _).size' (B6.out.drewN _).below ?_; intro v7 w7 hown7 hbel7 hz7 _; obtain ⟨l3, hl3⟩ : ∃ t, t = l2 ++ [xs[k]] := ⟨_, rfl⟩; have howns7 := own_snoc hl3 hown7; have hnl3 : l3.length ≤ l2.length + 1 := (by rw [hl3]; simp); have hpl3 : 0 < l3.length := (by rw [hl3]; simp); obtain ⟨g7, c7, rfl, _⟩ := own_form howns7 (by omega); have O7 := hid (show ∀ m, (World.drewN w7 m).ownsRow (w.heap.size + 1) 95 2 (.slice (some ⟨g7, 0, none⟩) l3.length c7) l3.length (l3.map DSetting.cells).flatten from fun _ => howns7); have B7 := hid (below_szz hbel7 hz7); have hBw7 := B7.out.size'; have Hl3 := hid hl3; clear howns7 hown7 hbel7 hl3)
            go_roundw
            case rel =>
              have hE : setTo xs e (k + 1) = (l3, true) := by rw [Hl3.out, Hl2.out]; exact HE.out
              exact ⟨k + 1, g7, c7, by omega, by go_num, by rw [hE], by rw [hE], by rw [hE]; exact (O7.out 0), B7.out⟩
            case measure => simp [intOf]; omega
          · skip
            have HE := hid (show setTo xs e (k + 1) = (l ++ [e], true) by rw [HST.out]; simp [setStep, bl, q])
            go_wp2_with fail
            go_quiet (fail)
            go_wp2_with (at_builtin; refine wpList_app (w0 := (w.alloc (.cells #[.string e.fName, .int .i64 e.fValue] 95))) rfl (.tmp 27) (.tmp 29) 24 rfl (w.heap.size + 1) 95 (.agg #[.string ⟨#[]⟩, .int .i64 0]) 2 24 Try.underlying24 infoSetting rfl (by decide) _ _ _ rfl (OD.out _) #[.string e.fName, .int .i64 e.fValue] 1 1 (by simp [Act.eval]) rfl (by simp [Value.oneCell']) (by omega) (HBS.out.drewN _).size' (HBS.out.drewN _).below ?_; intro v6 w6 hown6 hbel6 hz6 _; obtain ⟨l2, hl2⟩ : ∃ t, t = l ++ [e] := ⟨_, rfl⟩; have howns6 := own_snoc hl2 hown6; have hnl2 : l2.length ≤ l.length + 1 := (by rw [hl2]; simp); have hpl2 : 0 < l2.length := (by rw [hl2]; simp); obtain ⟨g6, c6, rfl, _⟩ := own_form howns6 (by omega); have O6 := hid (show ∀ m, (World.drewN w6 m).ownsRow (w.heap.size + 1) 95 2 (.slice (some ⟨g6, 0, none⟩) l2.length c6) l2.length (l2.map DSetting.cells).flatten from fun _ => howns6); have B6 := hid (below_szz hbel6 hz6); have hBw6 := B6.out.size'; have Hl2 := hid hl2; have x0 := (B6.out.below.cell (p := ⟨b, o + k * 2, none⟩) hlb).trans hc0; have x1 := (B6.out.below.cell (p := ⟨b, o + k * 2 + 1, none⟩) hlb).trans hc1; have f0 := (B6.out.below.cell (p := ⟨w.heap.size, 0, none⟩) hbx).trans NC.out.1; have f1 := (B6.out.below.cell (p := ⟨w.heap.size, 1, none⟩) hbx).trans NC.out.2; clear howns6 hown6 hbel6 hl2)
            go_quiet (fail)
            go_wp2_with fail
            go_roundw
            case rel =>
              have hE : setTo xs e (k + 1) = (l2, true) := by rw [Hl2.out]; exact HE.out
              exact ⟨k + 1, g6, c6, by omega, by go_num, by rw [hE], by rw [hE], by rw [hE]; exact (O6.out _), (B6.out.drewN _)⟩
            case measure => simp [intOf]; omega
        · skip
          cases q : (xs[k].fName.toList == e.fName.toList)
          · skip
            have HE := hid (show setTo xs e (k + 1) = (l ++ [xs[k]], false) by rw [HST.out]; simp [setStep, bl, q])
            go_wp2_with fail
            go_quiet (fail)
            go_wp2_with fail
            go_quiet (fail)
            go_wp2_with (at_builtin; refine wpList_app (w0 := (w.alloc (.cells #[.string e.fName, .int .i64 e.fValue] 95))) rfl (.tmp 39) (.tmp 44) 24 rfl (w.heap.size + 1) 95 (.agg #[.string ⟨#[]⟩, .int .i64 0]) 2 24 Try.underlying24 infoSetting rfl (by decide) _ _ _ rfl (OD.out _) #[.string xs[k].fName, .int .i64 xs[k].fValue] 1 1 (by simp [Act.eval]) rfl (by simp [Value.oneCell']) (by omega) (HBS.out.drewN _).size' (HBS.out.drewN _).below ?_; intro v7 w7 hown7 hbel7 hz7 _; obtain ⟨l3, hl3⟩ : ∃ t, t = l ++ [xs[k]] := ⟨_, rfl⟩; have howns7 := own_snoc hl3 hown7; have hnl3 : l3.length ≤ l.length + 1 := (by rw [hl3]; simp); have hpl3 : 0 < l3.length := (by rw [hl3]; simp); obtain ⟨g7, c7, rfl, _⟩ := own_form howns7 (by omega); have O7 := hid (show ∀ m, (World.drewN w7 m).ownsRow (w.heap.size + 1) 95 2 (.slice (some ⟨g7, 0, none⟩) l3.length c7) l3.length (l3.map DSetting.cells).flatten from fun _ => howns7); have B7 := hid (below_szz hbel7 hz7); have hBw7 := B7.out.size'; have Hl3 := hid hl3; clear howns7 hown7 hbel7 hl3)
            go_roundw
            case rel =>
              have hE : setTo xs e (k + 1) = (l3, false) := by rw [Hl3.out]; exact HE.out
              exact ⟨k + 1, g7, c7, by omega, by go_num, by rw [hE], by rw [hE], by rw [hE]; exact (O7.out 0), B7.out⟩
            case measure => simp [intOf]; omega
          · skip
            have HE := hid (show setTo xs e (k + 1) = (l, false) by rw [HST.out]; simp [setStep, bl, q])
            go_wp2_with fail
            go_quiet (fail)
            go_wp2_with fail
            go_quiet (fail)
            go_wp2_with fail
            go_roundw
            case rel =>
              have hE : setTo xs e (k + 1) = (l, false) := by exact HE.out
              exact ⟨k + 1, g, cc, by omega, by go_num, by rw [hE], by rw [hE], by rw [hE]; exact (OD.out _), (HBS.out.drewN _)⟩
            case measure => simp [intOf]; omega
      · cases bl : Op.bytesLess xs[k].fName.toList e.fName.toList
        · skip
          cases q : (xs[k].fName.toList == e.fName.toList)
          · skip
            have HE := hid (show setTo xs e (k + 1) = (l ++ [xs[k]], true) by rw [HST.out]; simp [setStep, bl, q])
            go_wp2_with fail
            go_quiet (fail)
            go_wp2_with fail
            go_quiet (fail)
            go_wp2_with (at_builtin; refine wpList_app (w0 := (w.alloc (.cells #[.string e.fName, .int .i64 e.fValue] 95))) rfl (.tmp 39) (.tmp 44) 24 rfl (w.heap.size + 1) 95 (.agg #[.string ⟨#[]⟩, .int .i64 0]) 2 24 Try.underlying24 infoSetting rfl (by decide) _ _ _ rfl (OD.out _) #[.string xs[k].fName, .int .i64 xs[k].fValue] 1 1 (by simp [Act.eval]) rfl (by simp [Value.oneCell']) (by omega) (HBS.out.drewN _).size' (HBS.out.drewN _).below ?_; intro v7 w7 hown7 hbel7 hz7 _; obtain ⟨l3, hl3⟩ : ∃ t, t = l ++ [xs[k]] := ⟨_, rfl⟩; have howns7 := own_snoc hl3 hown7; have hnl3 : l3.length ≤ l.length + 1 := (by rw [hl3]; simp); have hpl3 : 0 < l3.length := (by rw [hl3]; simp); obtain ⟨g7, c7, rfl, _⟩ := own_form howns7 (by omega); have O7 := hid (show ∀ m, (World.drewN w7 m).ownsRow (w.heap.size + 1) 95 2 (.slice (some ⟨g7, 0, none⟩) l3.length c7) l3.length (l3.map DSetting.cells).flatten from fun _ => howns7); have B7 := hid (below_szz hbel7 hz7); have hBw7 := B7.out.size'; have Hl3 := hid hl3; clear howns7 hown7 hbel7 hl3)
            go_roundw
            case rel =>
              have hE : setTo xs e (k + 1) = (l3, true) := by rw [Hl3.out]; exact HE.out
              exact ⟨k + 1, g7, c7, by omega, by go_num, by rw [hE], by rw [hE], by rw [hE]; exact (O7.out 0), B7.out⟩
            case measure => simp [intOf]; omega
          · skip
            have HE := hid (show setTo xs e (k + 1) = (l, true) by rw [HST.out]; simp [setStep, bl, q])
            go_wp2_with fail
            go_quiet (fail)
            go_wp2_with fail
            go_quiet (fail)
            go_wp2_with fail
            go_roundw
            case rel =>
              have hE : setTo xs e (k + 1) = (l, true) := by exact HE.out
              exact ⟨k + 1, g, cc, by omega, by go_num, by rw [hE], by rw [hE], by rw [hE]; exact (OD.out _), (HBS.out.drewN _)⟩
            case measure => simp [intOf]; omega
        · skip
          cases q : (xs[k].fName.toList == e.fName.toList)
          · skip
            have HE := hid (show setTo xs e (k + 1) = (l ++ [xs[k]], true) by rw [HST.out]; simp [setStep, bl, q])
            go_wp2_with fail
            go_quiet (fail)
            go_wp2_with fail
            go_quiet (fail)
            go_wp2_with (at_builtin; refine wpList_app (w0 := (w.alloc (.cells #[.string e.fName, .int .i64 e.fValue] 95))) rfl (.tmp 39) (.tmp 44) 24 rfl (w.heap.size + 1) 95 (.agg #[.string ⟨#[]⟩, .int .i64 0]) 2 24 Try.underlying24 infoSetting rfl (by decide) _ _ _ rfl (OD.out _) #[.string xs[k].fName, .int .i64 xs[k].fValue] 1 1 (by simp [Act.eval]) rfl (by simp [Value.oneCell']) (by omega) (HBS.out.drewN _).size' (HBS.out.drewN _).below ?_; intro v7 w7 hown7 hbel7 hz7 _; obtain ⟨l3, hl3⟩ : ∃ t, t = l ++ [xs[k]] := ⟨_, rfl⟩; have howns7 := own_snoc hl3 hown7; have hnl3 : l3.length ≤ l.length + 1 := (by rw [hl3]; simp); have hpl3 : 0 < l3.length := (by rw [hl3]; simp); obtain ⟨g7, c7, rfl, _⟩ := own_form howns7 (by omega); have O7 := hid (show ∀ m, (World.drewN w7 m).ownsRow (w.heap.size + 1) 95 2 (.slice (some ⟨g7, 0, none⟩) l3.length c7) l3.length (l3.map DSetting.cells).flatten from fun _ => howns7); have B7 := hid (below_szz hbel7 hz7); have hBw7 := B7.out.size'; have Hl3 := hid hl3; clear howns7 hown7 hbel7 hl3)
            go_roundw
            case rel =>
              have hE : setTo xs e (k + 1) = (l3, true) := by rw [Hl3.out]; exact HE.out
              exact ⟨k + 1, g7, c7, by omega, by go_num, by rw [hE], by rw [hE], by rw [hE]; exact (O7.out 0), B7.out⟩
            case measure => simp [intOf]; omega
          · skip
            have HE := hid (show setTo xs e (k + 1) = (l, true) by rw [HST.out]; simp [setStep, bl, q])
            go_wp2_with fail
            go_quiet (fail)
            go_wp2_with fail
            go_quiet (fail)
            go_wp2_with fail
            go_roundw
            case rel =>
              have hE : setTo xs e (k + 1) = (l, true) := by exact HE.out
              exact ⟨k + 1, g, cc, by omega, by go_num, by rw [hE], by rw [hE], by rw [hE]; exact (OD.out _), (HBS.out.drewN _)⟩
            case measure => simp [intOf]; omega
    · have hk2 : k = xs.length := by omega
      subst hk2
      have f0 := (HBS.out.below.cell (p := ⟨w.heap.size, 0, none⟩) hbx).trans NC.out.1
      have f1 := (HBS.out.below.cell (p := ⟨w.heap.size, 1, none⟩) hbx).trans NC.out.2
      cases d
      · have HE := hid (show setS xs e = l ++ [e] by unfold setS; rw [← HR.out]; rfl)
        go_wp2_with (at_builtin; refine wpList_app (w0 := (w.alloc (.cells #[.string e.fName, .int .i64 e.fValue] 95))) rfl (.tmp 48) (.tmp 50) 24 rfl (w.heap.size + 1) 95 (.agg #[.string ⟨#[]⟩, .int .i64 0]) 2 24 Try.underlying24 infoSetting rfl (by decide) _ _ _ rfl (OD.out 0) #[.string e.fName, .int .i64 e.fValue] 1 1 (by simp [Act.eval]) rfl (by simp [Value.oneCell']) (by omega) (HBS.out.drewN 0).size' (HBS.out.drewN 0).below ?_; intro v7 w7 hown7 hbel7 hz7 _; obtain ⟨l3, hl3⟩ : ∃ t, t = l ++ [e] := ⟨_, rfl⟩; have howns7 := own_snoc hl3 hown7; have hnl3 : l3.length ≤ l.length + 1 := (by rw [hl3]; simp); have hpl3 : 0 < l3.length := (by rw [hl3]; simp); obtain ⟨g7, c7, rfl, _⟩ := own_form howns7 (by omega); have O7 := hid (show ∀ m, (World.drewN w7 m).ownsRow (w.heap.size + 1) 95 2 (.slice (some ⟨g7, 0, none⟩) l3.length c7) l3.length (l3.map DSetting.cells).flatten from fun _ => howns7); have B7 := hid (below_szz hbel7 hz7); have hBw7 := B7.out.size'; have Hl3 := hid hl3; clear howns7 hown7 hbel7 hl3)
        go_ret
        have hE : setS xs e = l3 := by rw [Hl3.out]; exact HE.out
        exact ⟨⟨g7, c7, by rw [hE]; first | done | rfl, by rw [hE]; exact own_mono (O7.out 0) (by omega)⟩, (below_alloc w _).trans (B7.out.below.mono (by omega))⟩
      · have HE := hid (show setS xs e = l by unfold setS; rw [← HR.out]; rfl)
        go_wp2_with fail
        go_ret
        exact ⟨⟨g, cc, by rw [HE.out]; first | done | rfl, by rw [HE.out]; exact own_mono (OD.out 0) (by omega)⟩, (below_alloc w _).trans (HBS.out.below.mono (by omega))⟩

end Go.Proofs.Ytjeklbhdngkngaa
