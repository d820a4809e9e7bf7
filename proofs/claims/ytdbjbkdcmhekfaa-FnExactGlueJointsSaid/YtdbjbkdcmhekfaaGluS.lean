/- GlueJoints: the reference's search. -/
import Derived.Test.YtdbjbkdcmhekfaaGluV
import Derived.Deep.DeepCutAuto
namespace Go.Proofs.Ytdbjbkdcmhekfaa
open Go.RowKit
set_option linter.unusedVariables false

section
variable {M : Nat → Prop} {b : Nat} {LA NA RA : Value} {nodes bud most : Int} {full : Bool} {t best : List Nat}
theorem GlrS.setNodes {W : World} (h : GlrS b LA NA RA t best most nodes bud full W) (v : Int) : Below b W (W.setCell ⟨b, 6, none⟩ (.int .i64 v)) ∧ GlrS b LA NA RA t best most v bud full (W.setCell ⟨b, 6, none⟩ (.int .i64 v)) := by
  obtain ⟨At, ct, Ab, cb, ho, htk, hbs, hap⟩ := h
  exact ⟨(Below.refl b W).setCell (p := ⟨b, 6, none⟩) (Nat.le_refl _) _, At, ct, Ab, cb, own_setCells [.int .i64 v] (p := 6) ho, own_apart htk (by simp) _, own_apart hbs (by simp) _, hap⟩
theorem GlrS.setFull {W : World} (h : GlrS b LA NA RA t best most nodes bud full W) : Below b W (W.setCell ⟨b, 8, none⟩ (.bool true)) ∧ GlrS b LA NA RA t best most nodes bud true (W.setCell ⟨b, 8, none⟩ (.bool true)) := by
  obtain ⟨At, ct, Ab, cb, ho, htk, hbs, hap⟩ := h
  exact ⟨(Below.refl b W).setCell (p := ⟨b, 8, none⟩) (Nat.le_refl _) _, At, ct, Ab, cb, own_setCells [.bool true] (p := 8) ho, own_apart htk (by simp) _, own_apart hbs (by simp) _, hap⟩
end
theorem gownT_ok (A : Option Addr) (c : Nat) (t : List Nat) (w : World) {B : Nat} (hT : w.ownsRow B 2 1 (.slice A t.length c) t.length (tV t)) (hn : t.length ≤ 1048576) :
    Calls Try.prog 98 #[.slice A t.length c] w fun e w' => ∃ A' c', e = .returned (.slice A' t.length c') ∧ w'.ownsRow w.heap.size 2 1 (.slice A' t.length c') t.length (tV t) ∧ Below w.heap.size w w' := by
  have h := l00Own_ok A c (t.map Int.ofNat) w (ints_own hT) (by simpa using hn) (own_nil0 hT)
  rw [List.length_map] at h
  refine h.mono ?_
  rintro e w' ⟨A', c', rfl, ho, _, hb⟩
  rw [List.length_map] at ho
  exact ⟨A', c', by rw [List.length_map], ho, hb⟩
theorem HPost.open {b r cr : Nat} {w0 : World} {LA NA RA : Value} {bud : Int} {rr : Option WS} {rest : List Int} {t : List Nat} {e : Ending} {w' : World} (h : HPost b r cr w0 LA NA RA bud rr rest t e w') :
    ∃ (best : List Nat) (most nodes : Int) (fl : Bool), e = .returned (.tuple #[]) ∧ Below w0.heap.size w0 w' ∧ RestAt r cr rest w' ∧ GlrS b LA NA RA t best most nodes bud fl w' ∧ ((fl = true ∧ rr = none) ∨ (fl = false ∧ ∃ S, rr = some S ∧ (S.left : Int) ≤ bud ∧ best = S.best ∧ most = S.most ∧ nodes = bud - (S.left : Int))) := by
  obtain ⟨⟨h1, h0⟩, h2, h3⟩ := h
  cases rr with
  | none =>
    obtain ⟨best, most, nodes, hg⟩ := h3
    exact ⟨best, most, nodes, true, h0, h1, h2, hg, .inl ⟨rfl, rfl⟩⟩
  | some S =>
    obtain ⟨hl, hg⟩ := h3
    exact ⟨_, _, _, false, h0, h1, h2, hg, .inr ⟨rfl, S, rfl, hl, rfl, rfl, rfl⟩⟩

set_option maxHeartbeats 6400000 in
set_option maxRecDepth 100000 in
theorem glr_leaf (xs : List DPot) (ns : List Int) (A : Option Addr) (c : Nat) (N : Option Addr) (cN b r cr : Nat) (w0 : World) (hA : RowsAt w0 5 A (xs.map DPot.cells)) (hN : IntsAt w0 N ns) (hX : ∀ x ∈ xs, potD0 x) (hn : xs.length ≤ 8) (hns : ∀ n ∈ ns, 1 ≤ n ∧ n ≤ 10000) (hnn : ns.length ≤ 10) (hr0 : w0.heap.size ≤ r) (hrb : r < b) (hcr : xs.length ≤ cr) (bud : Int) (hbud : bud ≤ 20000) : ∀ (rest : List Int) (t : List Nat) (s : Int) (S : WS) (w : World), t.length + 0 = ns.length → rest.length = xs.length → RestOk rest → (0 ≤ s ∧ s ≤ 1000 * (t.length : Int)) → (S.left : Int) ≤ bud → Below w0.heap.size w0 w → GlrS b (.slice A xs.length c) (.slice N ns.length cN) (.slice (some ⟨r, 0, none⟩) xs.length cr) t S.best S.most (bud - (S.left : Int)) bud false w → RestAt r cr rest w →
    Calls Try.prog 108 #[.pointer (some ⟨b, 0, none⟩), .int .i64 s] w (HPost b r cr w0 (.slice A xs.length c) (.slice N ns.length cN) (.slice (some ⟨r, 0, none⟩) xs.length cr) bud (srchG xs ns 0 rest t s S) rest t) := by
  intro rest t s S w hm hrl hro hs hl hbl hst hre
  have HB := hid hbl
  have HST := hid hst
  have HRE := hid hre
  have hbw := hst.lt
  obtain ⟨hs0, hs1⟩ := hs
  have htl : t.length ≤ 10 := by omega
  have d1 : ((t.length : Int) == (ns.length : Int)) = true := by rw [beq_iff_eq]; omega
  have HR := hid (show srchG xs ns 0 rest t s S = some (leafG S t s) from rfl)
  clear hA hN hX hns hm hro hbl hst hre
  obtain ⟨At, ct, Ab, cb, ho, htk, hbs, hap⟩ := HST.out
  have HO := hid ho
  have HT := hid htk
  have HS := hid hbs
  have HP := hid hap
  clear ho htk hbs hap
  have c0 := HO.out.cellAt 0 (by omega)
  have c1 := HO.out.cellAt 1 (by omega)
  have c2 := HO.out.cellAt 2 (by omega)
  have c3 := HO.out.cellAt 3 (by omega)
  have c4 := HO.out.cellAt 4 (by omega)
  have c5 := HO.out.cellAt 5 (by omega)
  have c6 := HO.out.cellAt 6 (by omega)
  have c7 := HO.out.cellAt 7 (by omega)
  have c8 := HO.out.cellAt 8 (by omega)
  have f0 := HO.out.frozenAt 0
  have f1 := HO.out.frozenAt 1
  have f2 := HO.out.frozenAt 2
  have f3 := HO.out.frozenAt 3
  have f4 := HO.out.frozenAt 4
  have f5 := HO.out.frozenAt 5
  have f6 := HO.out.frozenAt 6
  have f7 := HO.out.frozenAt 7
  have f8 := HO.out.frozenAt 8
  simp only [List.getElem?_cons_zero, List.getElem?_cons_succ] at c0 c1 c2 c3 c4 c5 c6 c7 c8
  by_cases hlt : S.most < s
  · have HL := hid (show leafG S t s = ⟨S.left, t, s⟩ by unfold leafG; rw [if_pos (.inr hlt)])
    have OX := hid (own_setCells [.int .i64 s] (p := 5) HO.out)
    have TX := hid (own_apart HT.out (p := ⟨b, 5, none⟩) (by simp) (.int .i64 s))
    have BX := hid ((Below.refl b w).setCell (p := ⟨b, 5, none⟩) (Nat.le_refl _) (.int .i64 s))
    go_enter Try.func108, Try.ntmps108
    go_upto_region 4 with fail
    clear c0 f0 c1 f1 c2 f2 c3 f3 c4 f4 c5 f5 c6 f6 c7 f7 c8 f8
    have OX := hid (show (w.setCell ⟨b, 5, none⟩ (.int .i64 s)).ownsRow b 160 9 (.slice (some ⟨b, 0, none⟩) 1 1) 1 [(.slice A xs.length c), (.slice N ns.length cN), (.slice (some ⟨r, 0, none⟩) xs.length cr), .slice At t.length ct, .slice Ab S.best.length cb, .int .i64 s, .int .i64 (bud - (S.left : Int)), .int .i64 bud, .bool false] from OX.out)
    generalize w.setCell ⟨b, 5, none⟩ (.int .i64 s) = W at OX TX BX ⊢
    have hbW := (OX.out.lt b rfl).2
    have c3 := OX.out.cellAt 3 (by omega)
    have c4 := OX.out.cellAt 4 (by omega)
    have f3 := OX.out.frozenAt 3
    have f4 := OX.out.frozenAt 4
    simp only [List.getElem?_cons_zero, List.getElem?_cons_succ] at c3 c4
    go_wp2_with (go_at_call 98; refine (gownT_ok At ct t _ (B := b + 1) TX.out (by omega)).mono ?_; rintro e w3 ⟨A3, c3', rfl, ho3, hb3⟩; have O3 := hid (own_below OX.out hb3); have T3 := hid (own_below TX.out hb3); have B3 := hid hb3; have N3 := hid ho3; clear c3 f3 c4 f4; have c4 := O3.out.cellAt 4 (by omega); have f4 := O3.out.frozenAt 4; simp only [List.getElem?_cons_zero, List.getElem?_cons_succ] at c4; clear ho3 hb3)
    (try simp only [Exit.inBlock, Exit.then]); first | refine bodyPost_ret (results_none rfl _ _ _) rfl ?_ | refine bodyPost_end (results_none rfl _ _ _) rfl ?_
    have BZ : Below b w (w3.setCell ⟨b, 4, none⟩ (.slice A3 t.length c3')) := BX.out.trans ((B3.out.mono (Nat.le_of_lt hbW)).setCell (p := ⟨b, 4, none⟩) (Nat.le_refl _) _)
    refine ⟨⟨HB.out.trans (BZ.mono (by omega)), rfl⟩, HRE.out.under BZ hrb, ?_⟩
    rw [HR.out, HL.out]
    exact ⟨hl, At, ct, A3, c3', own_setCells [.slice A3 t.length c3'] (p := 4) O3.out, own_apart T3.out (by simp) _, own_apart (own_mono N3.out (show b + 1 ≤ _ from hbW)) (by simp) _, apart_new TX.out N3.out⟩
  · have HL := hid (show leafG S t s = S by unfold leafG; rw [if_neg (by omega)])
    go_enter Try.func108, Try.ntmps108
    go_wp2_with fail
    (try simp only [Exit.inBlock, Exit.then]); first | refine bodyPost_ret (results_none rfl _ _ _) rfl ?_ | refine bodyPost_end (results_none rfl _ _ _) rfl ?_
    refine ⟨⟨HB.out, rfl⟩, HRE.out, ?_⟩
    rw [HR.out, HL.out]
    exact ⟨hl, HST.out⟩

set_option maxHeartbeats 12800000 in
set_option maxRecDepth 100000 in
theorem glr_step (xs : List DPot) (ns : List Int) (A : Option Addr) (c : Nat) (N : Option Addr) (cN b r cr : Nat) (w0 : World) (hA : RowsAt w0 5 A (xs.map DPot.cells)) (hN : IntsAt w0 N ns) (hX : ∀ x ∈ xs, potD0 x) (hn : xs.length ≤ 8) (hns : ∀ n ∈ ns, 1 ≤ n ∧ n ≤ 10000) (hnn : ns.length ≤ 10) (hr0 : w0.heap.size ≤ r) (hrb : r < b) (hcr : xs.length ≤ cr) (bud : Int) (hbud : bud ≤ 20000) (m' : Nat) (ih : ∀ (rest : List Int) (t : List Nat) (s : Int) (S : WS) (w : World), t.length + m' = ns.length → rest.length = xs.length → RestOk rest → (0 ≤ s ∧ s ≤ 1000 * (t.length : Int)) → (S.left : Int) ≤ bud → Below w0.heap.size w0 w → GlrS b (.slice A xs.length c) (.slice N ns.length cN) (.slice (some ⟨r, 0, none⟩) xs.length cr) t S.best S.most (bud - (S.left : Int)) bud false w → RestAt r cr rest w →
    Calls Try.prog 108 #[.pointer (some ⟨b, 0, none⟩), .int .i64 s] w (HPost b r cr w0 (.slice A xs.length c) (.slice N ns.length cN) (.slice (some ⟨r, 0, none⟩) xs.length cr) bud (srchG xs ns m' rest t s S) rest t)) : ∀ (rest : List Int) (t : List Nat) (s : Int) (S : WS) (w : World), t.length + (m' + 1) = ns.length → rest.length = xs.length → RestOk rest → (0 ≤ s ∧ s ≤ 1000 * (t.length : Int)) → (S.left : Int) ≤ bud → Below w0.heap.size w0 w → GlrS b (.slice A xs.length c) (.slice N ns.length cN) (.slice (some ⟨r, 0, none⟩) xs.length cr) t S.best S.most (bud - (S.left : Int)) bud false w → RestAt r cr rest w →
    Calls Try.prog 108 #[.pointer (some ⟨b, 0, none⟩), .int .i64 s] w (HPost b r cr w0 (.slice A xs.length c) (.slice N ns.length cN) (.slice (some ⟨r, 0, none⟩) xs.length cr) bud (srchG xs ns (m' + 1) rest t s S) rest t) := by
  intro rest t s S w hm hrl hro hs hl hbl hst hre
  have HA := hid hA
  have HN := hid hN
  have HX := hid hX
  have HNS := hid hns
  have HIH := hid ih
  have HRO := hid hro
  have HRL := hid hrl
  have HB := hid hbl
  have HST := hid hst
  have HRE := hid hre
  have hbw := hst.lt
  obtain ⟨hs0, hs1⟩ := hs
  have htl : t.length < ns.length := by omega
  have d1 : ((t.length : Int) == (ns.length : Int)) = false := by rw [beq_eq_false_iff_ne]; omega
  have HM2 := hid (show t.length + 1 + m' = ns.length by omega)
  have HR := hid (show srchG xs ns (m' + 1) rest t s S = loopO (fun k S2 => if restI rest k < needI ns t.length then some S2 else if S2.left = 0 then none else srchG xs ns m' (rest.set k (restI rest k - needI ns t.length)) (t ++ [k]) (s + strI xs k) ⟨S2.left - 1, S2.best, S2.most⟩) xs.length 0 S from rfl)
  clear hA hN hX hns ih hm hro hrl hbl hst hre
  obtain ⟨At, ct, Ab, cb, ho, htk, hbs, hap⟩ := HST.out
  have HO := hid ho
  have HT := hid htk
  have HS := hid hbs
  have HP := hid hap
  clear ho htk hbs hap
  have c0 := HO.out.cellAt 0 (by omega)
  have c1 := HO.out.cellAt 1 (by omega)
  have c2 := HO.out.cellAt 2 (by omega)
  have c3 := HO.out.cellAt 3 (by omega)
  have c4 := HO.out.cellAt 4 (by omega)
  have c5 := HO.out.cellAt 5 (by omega)
  have c6 := HO.out.cellAt 6 (by omega)
  have c7 := HO.out.cellAt 7 (by omega)
  have c8 := HO.out.cellAt 8 (by omega)
  have f0 := HO.out.frozenAt 0
  have f1 := HO.out.frozenAt 1
  have f2 := HO.out.frozenAt 2
  have f3 := HO.out.frozenAt 3
  have f4 := HO.out.frozenAt 4
  have f5 := HO.out.frozenAt 5
  have f6 := HO.out.frozenAt 6
  have f7 := HO.out.frozenAt 7
  have f8 := HO.out.frozenAt 8
  simp only [List.getElem?_cons_zero, List.getElem?_cons_succ] at c0 c1 c2 c3 c4 c5 c6 c7 c8
  go_enter Try.func108, Try.ntmps108
  go_wp2_with fail
  go_loopw [5] (fun i wr => ∃ (k : Nat) (best : List Nat) (most nodes : Int) (fl : Bool), (k ≤ xs.length ∧ i = .int .i64 k) ∧ Hid ((fl = false ∧ ∃ S2 : WS, srchG xs ns (m' + 1) rest t s S = loopO (fun k S2 => if restI rest k < needI ns t.length then some S2 else if S2.left = 0 then none else srchG xs ns m' (rest.set k (restI rest k - needI ns t.length)) (t ++ [k]) (s + strI xs k) ⟨S2.left - 1, S2.best, S2.most⟩) (xs.length - k) k S2 ∧ (S2.left : Int) ≤ bud ∧ best = S2.best ∧ most = S2.most ∧ nodes = bud - (S2.left : Int)) ∨ (fl = true ∧ srchG xs ns (m' + 1) rest t s S = none)) ∧ Below w0.heap.size w0 wr ∧ GlrS b (.slice A xs.length c) (.slice N ns.length cN) (.slice (some ⟨r, 0, none⟩) xs.length cr) t best most nodes bud fl wr ∧ RestAt r cr rest wr) (fun i _ => xs.length - (intOf i).toNat)
  case atStart => exact ⟨0, _, _, _, false, ⟨Nat.zero_le _, rfl⟩, .inl ⟨rfl, S, HR.out, hl, rfl, rfl, rfl⟩, HB.out, HST.out, HRE.out⟩
  case round =>
    clear c0 f0 c1 f1 c2 f2 c3 f3 c4 f4 c5 f5 c6 f6 c7 f7 c8 f8 HO HT HS HP d1 HST HB HR HRE
    obtain ⟨k, best2, most2, nodes2, fl, ⟨hk, rfl⟩, HE, hbr, hst, hre⟩ := hrel
    have SR := hid hst
    have BR := hid hbr
    have RR := hid hre
    have hbr2 := hst.lt
    clear hst hbr hre
    obtain ⟨At, ct, Ab, cb, ho, htk, hbs, hap⟩ := SR.out
    have HO := hid ho
    have HT := hid htk
    have HS := hid hbs
    have HP := hid hap
    clear ho htk hbs hap
    have c0 := HO.out.cellAt 0 (by omega)
    have c8 := HO.out.cellAt 8 (by omega)
    have f0 := HO.out.frozenAt 0
    have f8 := HO.out.frozenAt 8
    simp only [List.getElem?_cons_zero, List.getElem?_cons_succ] at c0 c8
    have q0 : (0 : Int) ≤ (k : Int) := by omega
    by_cases hkl : k < xs.length
    · have q1 : (k : Int) < xs.length := by omega
      cases fl
      case true =>
        have HEN := hid (show srchG xs ns (m' + 1) rest t s S = none by
          rcases HE.out with ⟨h, -⟩ | ⟨-, h⟩
          · cases h
          · exact h)
        go_wp2_with fail
        (try simp only [Exit.inBlock, Exit.then]); first | refine bodyPost_ret (results_none rfl _ _ _) rfl ?_ | refine bodyPost_end (results_none rfl _ _ _) rfl ?_
        refine ⟨⟨BR.out, rfl⟩, RR.out, ?_⟩
        rw [HEN.out]
        exact ⟨_, _, _, SR.out⟩
      obtain ⟨S2, hE2, hl2, rfl, rfl, rfl⟩ : ∃ S2 : WS, srchG xs ns (m' + 1) rest t s S = loopO (fun k S2 => if restI rest k < needI ns t.length then some S2 else if S2.left = 0 then none else srchG xs ns m' (rest.set k (restI rest k - needI ns t.length)) (t ++ [k]) (s + strI xs k) ⟨S2.left - 1, S2.best, S2.most⟩) (xs.length - k) k S2 ∧ (S2.left : Int) ≤ bud ∧ best2 = S2.best ∧ most2 = S2.most ∧ nodes2 = bud - (S2.left : Int) := by
        rcases HE.out with ⟨-, h⟩ | ⟨h, -⟩
        · exact h
        · cases h
      have HE2 := hid hE2
      obtain ⟨ab, ao, hAe, hlt, hc⟩ := HA.out (by intro e; rw [List.map_eq_nil_iff] at e; rw [e] at hkl; exact absurd hkl (by simp))
      obtain ⟨nb, no, hNe, hnlt, hnc⟩ := HN.out (by intro e; rw [e] at htl; exact absurd htl (by simp))
      subst hAe hNe
      have hle : xs.length - k = (xs.length - (k + 1)) + 1 := by omega
      have hkr2 : k < rest.length := by have := HRL.out; omega
      obtain ⟨x, hx⟩ : ∃ x, x = xs[k] := ⟨_, rfl⟩
      obtain ⟨nk, hnk⟩ : ∃ n, ns[t.length] = n := ⟨_, rfl⟩
      obtain ⟨rk, hrk⟩ : ∃ n, rest[k] = n := ⟨_, rfl⟩
      have hci : (xs.map DPot.cells)[k]? = some x.cells := by rw [List.getElem?_map, List.getElem?_eq_getElem hkl, hx]; rfl
      have HC1 := hid (show w0.cell? ⟨ab, ao + k * 5 + 1, none⟩ = some (.int .i64 x.fDry) from hc k _ hci 1 _ rfl)
      have HC2 := hid (show w0.cell? ⟨ab, ao + k * 5 + 2, none⟩ = some (.int .i64 x.fWater) from hc k _ hci 2 _ rfl)
      have HC3 := hid (show w0.cell? ⟨ab, ao + k * 5 + 3, none⟩ = some (.int .i64 x.fHeat) from hc k _ hci 3 _ rfl)
      have HC4 := hid (show w0.cell? ⟨ab, ao + k * 5 + 4, none⟩ = some (.int .i64 x.fHours) from hc k _ hci 4 _ rfl)
      have HNC := hid (show w0.cell? ⟨nb, no + t.length, none⟩ = some (.int .i64 nk) from (hnc t.length nk (by rw [← hnk]; exact List.getElem?_eq_getElem htl)))
      have HXK := hid (show potD0 x by rw [hx]; exact HX.out _ (List.getElem_mem hkl))
      have HSI := hid (show strI xs k = strong x by rw [hx]; exact strI_at hkl)
      obtain ⟨sx0, sx1⟩ := strong_bd HXK.out
      have hnb := HNS.out ns[t.length] (List.getElem_mem htl)
      have hrb2 := HRO.out rest[k] (List.getElem_mem hkr2)
      rw [hnk] at hnb
      rw [hrk] at hrb2
      obtain ⟨nk0, nk1⟩ := hnb
      obtain ⟨rk0, rk1⟩ := hrb2
      have HRI := hid (show restI rest k = rk by rw [restI_at hkr2, hrk])
      have HNI := hid (show needI ns t.length = nk by rw [needI_at htl, hnk])
      have HBK := hid (show (rest.set k (rk - nk)).set k rk = rest by rw [← hrk]; exact rest_back hkr2)
      have HRC := hid (show ∀ W, RestAt r cr rest W → W.cell? ⟨r, k, none⟩ = some (.int .i64 rk) ∧ W.frozen? ⟨r, k, none⟩ = false from fun W h => by rw [← hrk]; exact h.cell hkr2)
      have z0 : (0 : Int) ≤ (t.length : Int) := by omega
      have z1 : (t.length : Int) < ns.length := by omega
      have v1 : IntKind.i64.wrap (rk - nk) = rk - nk := IntWalk.i64_in _ (by omega)
      have v5 : IntKind.i64.wrap (rk - nk + nk) = rk := by rw [IntWalk.i64_in _ (by omega)]; omega
      have v6 : IntKind.i64.wrap rk = rk := IntWalk.i64_in _ (by omega)
      clear hc hnc hx hnk hrk hci hE2
      go_upto_region 8 with fail
      clear c0 f0 c8 f8
      have c1 := HO.out.cellAt 1 (by omega)
      have c2 := HO.out.cellAt 2 (by omega)
      have f1 := HO.out.frozenAt 1
      have f2 := HO.out.frozenAt 2
      simp only [List.getElem?_cons_zero, List.getElem?_cons_succ] at c1 c2
      obtain ⟨rc, rf⟩ := HRC.out _ RR.out
      have n0 := (BR.out.cell (p := ⟨nb, no + t.length, none⟩) hnlt).trans HNC.out
      by_cases hroom : rk < nk
      · have HEN := hid (show srchG xs ns (m' + 1) rest t s S = loopO (fun k S2 => if restI rest k < needI ns t.length then some S2 else if S2.left = 0 then none else srchG xs ns m' (rest.set k (restI rest k - needI ns t.length)) (t ++ [k]) (s + strI xs k) ⟨S2.left - 1, S2.best, S2.most⟩) (xs.length - (k + 1)) (k + 1) S2 by
          rw [HE2.out, hle]
          exact loopO_some (by rw [HRI.out, HNI.out, if_pos hroom]))
        go_quiet (fail)
        go_wp2_with fail
        go_roundw
        case rel => exact ⟨k + 1, _, _, _, false, ⟨by omega, by go_num⟩, .inl ⟨rfl, S2, HEN.out, hl2, rfl, rfl, rfl⟩, below_drewN' BR.out _, SR.out.drewN _, RR.out⟩
        case measure => simp [intOf]; omega
      · go_quiet (fail)
        have S4 := hid (SR.out.drewN nq)
        have B4 := hid (below_drewN' BR.out nq)
        have R4 := hid (show RestAt r cr rest (wr.drewN nq) from RR.out)
        clear c1 f1 c2 f2 rc rf n0 HO HT HS HP SR BR RR hbr2
        generalize wr.drewN nq = W4 at S4 B4 R4 ⊢
        obtain ⟨At, ct, Ab, cb, ho, htk, hbs, hap⟩ := S4.out
        have HO := hid ho
        have HT := hid htk
        have HS := hid hbs
        have HP := hid hap
        clear ho htk hbs hap
        have c6 := HO.out.cellAt 6 (by omega)
        have c7 := HO.out.cellAt 7 (by omega)
        have c8 := HO.out.cellAt 8 (by omega)
        have f6 := HO.out.frozenAt 6
        have f7 := HO.out.frozenAt 7
        have f8 := HO.out.frozenAt 8
        simp only [List.getElem?_cons_zero, List.getElem?_cons_succ] at c6 c7 c8
        go_wp2_with fail
        by_cases hl0 : S2.left = 0
        · have HEN := hid (show srchG xs ns (m' + 1) rest t s S = none by
            rw [HE2.out, hle]
            exact loopO_none (by rw [HRI.out, HNI.out, if_neg (show ¬ rk < nk by omega), if_pos hl0]))
          have d2 : (bud - (S2.left : Int) == bud) = true := by rw [beq_iff_eq]; omega
          clear hl0
          go_quiet (fail)
          have S5 := hid (S4.out.drewN nq)
          have B5 := hid (below_drewN' B4.out nq)
          have R5 := hid (show RestAt r cr rest (W4.drewN nq) from R4.out)
          clear c6 f6 c7 f7 c8 f8 HO HT HS HP S4 B4 R4
          generalize W4.drewN nq = W5 at S5 B5 R5 ⊢
          obtain ⟨At, ct, Ab, cb, ho, htk, hbs, hap⟩ := S5.out
          have HO := hid ho
          have HT := hid htk
          have HS := hid hbs
          have HP := hid hap
          clear ho htk hbs hap
          have c8 := HO.out.cellAt 8 (by omega)
          have f8 := HO.out.frozenAt 8
          simp only [List.getElem?_cons_zero, List.getElem?_cons_succ] at c8
          obtain ⟨sb, sg⟩ := S5.out.setFull
          have S6 := hid sg
          have R6 := hid (R5.out.under sb hrb)
          have B6 := hid (B5.out.trans (sb.mono (by omega)))
          clear sb sg
          go_wp2_with fail
          (try simp only [Exit.inBlock, Exit.then]); first | refine bodyPost_ret (results_none rfl _ _ _) rfl ?_ | refine bodyPost_end (results_none rfl _ _ _) rfl ?_
          refine ⟨⟨B6.out, rfl⟩, R6.out, ?_⟩
          rw [HEN.out]
          exact ⟨_, _, _, S6.out⟩
        · have d2 : (bud - (S2.left : Int) == bud) = false := by rw [beq_eq_false_iff_ne]; omega
          have hl1 : 1 ≤ S2.left := by omega
          have HF := hid (show (fun k S2 => if restI rest k < needI ns t.length then some S2 else if S2.left = 0 then none else srchG xs ns m' (rest.set k (restI rest k - needI ns t.length)) (t ++ [k]) (s + strI xs k) ⟨S2.left - 1, S2.best, S2.most⟩) k S2 = srchG xs ns m' (rest.set k (rk - nk)) (t ++ [k]) (s + strong x) ⟨S2.left - 1, S2.best, S2.most⟩ by
            show (if restI rest k < needI ns t.length then some S2 else if S2.left = 0 then none else srchG xs ns m' (rest.set k (restI rest k - needI ns t.length)) (t ++ [k]) (s + strI xs k) ⟨S2.left - 1, S2.best, S2.most⟩) = _
            rw [HRI.out, HNI.out, HSI.out, if_neg (show ¬ rk < nk by omega), if_neg hl0])
          have hcast : (bud - (S2.left : Int) + 1) = bud - ((S2.left - 1 : Nat) : Int) := by omega
          have hrm := hid hroom
          clear hl0 hroom
          go_quiet (fail)
          have S5 := hid (S4.out.drewN nq)
          have B5 := hid (below_drewN' B4.out nq)
          have R5 := hid (show RestAt r cr rest (W4.drewN nq) from R4.out)
          clear c6 f6 c7 f7 c8 f8 HO HT HS HP S4 B4 R4
          generalize W4.drewN nq = W5 at S5 B5 R5 ⊢
          obtain ⟨At, ct, Ab, cb, ho, htk, hbs, hap⟩ := S5.out
          have HO := hid ho
          have HT := hid htk
          have HS := hid hbs
          have HP := hid hap
          clear ho htk hbs hap
          have c6 := HO.out.cellAt 6 (by omega)
          have f6 := HO.out.frozenAt 6
          simp only [List.getElem?_cons_zero, List.getElem?_cons_succ] at c6
          obtain ⟨sb, sg⟩ := S5.out.setNodes (bud - (S2.left : Int) + 1)
          have S6 := hid (show GlrS b (.slice (some ⟨ab, ao, none⟩) xs.length c) (.slice (some ⟨nb, no, none⟩) ns.length cN) (.slice (some ⟨r, 0, none⟩) xs.length cr) t S2.best S2.most (bud - ((S2.left - 1 : Nat) : Int)) bud false (W5.setCell ⟨b, 6, none⟩ (.int .i64 (bud - (S2.left : Int) + 1))) by rw [← hcast]; exact sg)
          have R6 := hid (R5.out.under sb hrb)
          have B6 := hid (B5.out.trans (sb.mono (by omega)))
          clear sb sg hcast
          go_upto_region 12 with fail
          generalize W5.setCell ⟨b, 6, none⟩ (.int .i64 (bud - (S2.left : Int) + 1)) = W6 at S6 B6 R6 ⊢
          clear c6 f6 d2 HO HT HS HP S5 B5 R5
          obtain ⟨At, ct, Ab, cb, ho, htk, hbs, hap⟩ := S6.out
          have HO := hid ho
          have HT := hid htk
          have HS := hid hbs
          have HP := hid hap
          clear ho htk hbs hap
          have c1 := HO.out.cellAt 1 (by omega)
          have c2 := HO.out.cellAt 2 (by omega)
          have f1 := HO.out.frozenAt 1
          have f2 := HO.out.frozenAt 2
          simp only [List.getElem?_cons_zero, List.getElem?_cons_succ] at c1 c2
          obtain ⟨rc, rf⟩ := HRC.out _ R6.out
          have n0 := (B6.out.cell (p := ⟨nb, no + t.length, none⟩) hnlt).trans HNC.out
          have hrlt := R6.out.lt
          have hr0' : rk - nk ≤ 20000 := by omega
          have hr1' : 0 ≤ rk - nk := by have := hrm.out; omega
          have S7 := hid ((S6.out.low (p := ⟨r, k, none⟩) hrb (.int .i64 (rk - nk))).drew)
          have B7 := hid ((B6.out.setCell (p := ⟨r, k, none⟩) hr0 (.int .i64 (rk - nk))).drew)
          have R7 := hid (show RestAt r cr (rest.set k (rk - nk)) (W6.setCell ⟨r, k, none⟩ (.int .i64 (rk - nk))).drew from R6.out.set (rk - nk))
          have HRO2 := hid (HRO.out.set (k := k) (v := rk - nk) ⟨hr1', hr0'⟩)
          go_region
          generalize (W6.setCell ⟨r, k, none⟩ (.int .i64 (rk - nk))).drew = W7 at S7 B7 R7 ⊢
          clear c1 f1 c2 f2 rc rf n0 HO HT HS HP S6 B6 R6
          obtain ⟨At, ct, Ab, cb, ho, htk, hbs, hap⟩ := S7.out
          have HO := hid ho
          have HT := hid htk
          have HS := hid hbs
          have HP := hid hap
          clear ho htk hbs hap
          have c3 := HO.out.cellAt 3 (by omega)
          have f3 := HO.out.frozenAt 3
          simp only [List.getElem?_cons_zero, List.getElem?_cons_succ] at c3
          have hbW7 := S7.out.lt
          go_upto_region 14 with (at_builtin; refine wpList_app2 (w0 := W7) rfl (.tmp 106) (.tmp 108) 24 rfl (b + 1) 2 (.int .i64 0) 1 8 Try.underlying24 infoI rfl (by decide) _ _ _ rfl HT.out #[.int .i64 (k : Int)] 1 1 (by first | rfl | simp [Act.eval]) rfl (by simp [Value.oneCell']) (by omega) hbW7 (Below.refl _ _) ?_; intro v9 w9 hown9 hbel9 hgr9 hb9; obtain ⟨A9, c9, rfl⟩ := own_sliceV hown9; have R9 := hid (GlrS.take (M := fun g => g = r) (q := 0) HO.out HT.out HS.out HP.out hown9 hgr9 hb9); clear c3 f3; have e1 := R9.out.2.1; have i1 := R9.out.2.2; clear hown9 hbel9 hgr9 hb9)
          obtain ⟨sb, sk, sg⟩ := R9.out.1
          have S8 := hid sg
          have R8 := hid (R7.out.under sb hrb)
          have B8 := hid (B7.out.trans (sb.mono (by omega)))
          clear sb sk sg e1 i1 R9 HO HT HS HP S7 B7 R7
          generalize w9.setCell ⟨b, 3, none⟩ (.slice A9 (t.length + 1) c9) = W8 at S8 B8 R8 ⊢
          obtain ⟨At, ct, Ab, cb, ho, htk, hbs, hap⟩ := S8.out
          have HO := hid ho
          have HT := hid htk
          have HS := hid hbs
          have HP := hid hap
          clear ho htk hbs hap
          have c0 := HO.out.cellAt 0 (by omega)
          have f0 := HO.out.frozenAt 0
          simp only [List.getElem?_cons_zero] at c0
          go_wp2_with fail
          refine (l14Strong_ok x ab (ao + k * 5) _ HXK.out ((B8.out.cell (p := ⟨ab, ao + k * 5 + 1, none⟩) hlt).trans HC1.out) ((B8.out.cell (p := ⟨ab, ao + k * 5 + 2, none⟩) hlt).trans HC2.out) ((B8.out.cell (p := ⟨ab, ao + k * 5 + 3, none⟩) hlt).trans HC3.out) ((B8.out.cell (p := ⟨ab, ao + k * 5 + 4, none⟩) hlt).trans HC4.out)).mono ?_
          rintro e W9 ⟨rfl, hb9⟩
          have S9 := hid (S8.out.below hb9)
          have B9 := hid (below_up B8.out B8.out.size hb9)
          have R9 := hid (show RestAt r cr (rest.set k (rk - nk)) W9 from own_below R8.out hb9)
          clear hb9 c0 f0 HO HT HS HP S8 B8 R8
          go_wp2_with fail
          refine (HIH.out (rest.set k (rk - nk)) (t ++ [k]) (s + strong x) ⟨S2.left - 1, S2.best, S2.most⟩ W9 (by have := HM2.out; rw [List.length_append, List.length_singleton]; omega) (by rw [List.length_set]; exact HRL.out) HRO2.out (by rw [List.length_append, List.length_singleton]; omega) (by show ((S2.left - 1 : Nat) : Int) ≤ bud; omega) B9.out S9.out R9.out).mono ?_
          rintro e WA hr
          obtain ⟨best8, most8, nodes8, fl8, rfl, hb8, hre8, hst8, hcase⟩ := hr.open
          have HCASE := hid hcase
          obtain ⟨g6, c6, ⟨⟨h1, h2⟩, h3⟩, e4, i4, hst9, -, hbl9⟩ := hst8.cut (M := fun g => g = r)
          have SA := hid hst9
          have BA := hid (hb8.trans (hbl9.mono (by omega)))
          have RA' := hid (hre8.under hbl9 hrb)
          have hb8l := hst8.lt
          have h4 : (0 : Int) ≤ (t.length : Int) := by omega
          have h5 : (t.length : Int) ≤ (c6 : Int) := by omega
          clear hr hcase hst8 hst9 hb8 hbl9 hre8 S9 B9 R9
          go_upto_region 16 with fail
          generalize WA.setCell ⟨b, 3, none⟩ (.slice (some ⟨g6, 0, none⟩) t.length c6) = WB at SA BA RA' ⊢
          clear e4 i4 h1 h2 h3 h4 h5
          obtain ⟨At, ct, Ab, cb, ho, htk, hbs, hap⟩ := SA.out
          have HO := hid ho
          have HT := hid htk
          have HS := hid hbs
          have HP := hid hap
          clear ho htk hbs hap
          have c1 := HO.out.cellAt 1 (by omega)
          have c2 := HO.out.cellAt 2 (by omega)
          have f1 := HO.out.frozenAt 1
          have f2 := HO.out.frozenAt 2
          simp only [List.getElem?_cons_zero, List.getElem?_cons_succ] at c1 c2
          have hk9 : k < (rest.set k (rk - nk)).length := by rw [List.length_set]; exact hkr2
          have rc9 := RA'.out.cell hk9
          rw [List.getElem_set_self] at rc9
          obtain ⟨rc, rf⟩ := rc9
          have n0 := (BA.out.cell (p := ⟨nb, no + t.length, none⟩) hnlt).trans HNC.out
          have hrlt := RA'.out.lt
          have SC := hid ((SA.out.low (p := ⟨r, k, none⟩) hrb (.int .i64 rk)).drew)
          have BC := hid ((BA.out.setCell (p := ⟨r, k, none⟩) hr0 (.int .i64 rk)).drew)
          have RC := hid (show RestAt r cr rest (WB.setCell ⟨r, k, none⟩ (.int .i64 rk)).drew by
            have h9 := RA'.out.set (k := k) rk
            rw [HBK.out] at h9
            exact h9)
          clear hk9
          go_region
          generalize (WB.setCell ⟨r, k, none⟩ (.int .i64 rk)).drew = WC at SC BC RC ⊢
          clear c1 f1 c2 f2 rc rf n0 HO HT HS HP SA BA RA'
          have HNEXT := hid (show (fl8 = false ∧ ∃ S3 : WS, srchG xs ns (m' + 1) rest t s S = loopO (fun k S2 => if restI rest k < needI ns t.length then some S2 else if S2.left = 0 then none else srchG xs ns m' (rest.set k (restI rest k - needI ns t.length)) (t ++ [k]) (s + strI xs k) ⟨S2.left - 1, S2.best, S2.most⟩) (xs.length - (k + 1)) (k + 1) S3 ∧ (S3.left : Int) ≤ bud ∧ best8 = S3.best ∧ most8 = S3.most ∧ nodes8 = bud - (S3.left : Int)) ∨ (fl8 = true ∧ srchG xs ns (m' + 1) rest t s S = none) by
            rcases HCASE.out with ⟨h, h2⟩ | ⟨h, S3, h2, h3⟩
            · refine .inr ⟨h, ?_⟩
              rw [HE2.out, hle]
              exact loopO_none (HF.out.trans h2)
            · refine .inl ⟨h, S3, ?_, h3⟩
              rw [HE2.out, hle]
              exact loopO_some (HF.out.trans h2))
          go_wp2_with fail
          go_roundw
          case rel => exact ⟨k + 1, _, _, _, fl8, ⟨by omega, by go_num⟩, HNEXT.out, BC.out, SC.out, RC.out⟩
          case measure => simp [intOf]; omega
    · have hk2 : k = xs.length := by omega
      subst hk2
      go_wp2_with fail
      (try simp only [Exit.inBlock, Exit.then]); first | refine bodyPost_ret (results_none rfl _ _ _) rfl ?_ | refine bodyPost_end (results_none rfl _ _ _) rfl ?_
      refine ⟨⟨BR.out, rfl⟩, RR.out, ?_⟩
      rcases HE.out with ⟨rfl, S2, h1, h2, rfl, rfl, rfl⟩ | ⟨rfl, h1⟩
      · rw [h1, Nat.sub_self]
        exact ⟨h2, SR.out⟩
      · rw [h1]
        exact ⟨_, _, _, SR.out⟩
/-- the reference's search -/
theorem glrSearch (xs : List DPot) (ns : List Int) (A : Option Addr) (c : Nat) (N : Option Addr) (cN b r cr : Nat) (w0 : World) (hA : RowsAt w0 5 A (xs.map DPot.cells)) (hN : IntsAt w0 N ns) (hX : ∀ x ∈ xs, potD0 x) (hn : xs.length ≤ 8) (hns : ∀ n ∈ ns, 1 ≤ n ∧ n ≤ 10000) (hnn : ns.length ≤ 10) (hr0 : w0.heap.size ≤ r) (hrb : r < b) (hcr : xs.length ≤ cr) (bud : Int) (hbud : bud ≤ 20000) : ∀ (m : Nat), ∀ (rest : List Int) (t : List Nat) (s : Int) (S : WS) (w : World), t.length + m = ns.length → rest.length = xs.length → RestOk rest → (0 ≤ s ∧ s ≤ 1000 * (t.length : Int)) → (S.left : Int) ≤ bud → Below w0.heap.size w0 w → GlrS b (.slice A xs.length c) (.slice N ns.length cN) (.slice (some ⟨r, 0, none⟩) xs.length cr) t S.best S.most (bud - (S.left : Int)) bud false w → RestAt r cr rest w →
    Calls Try.prog 108 #[.pointer (some ⟨b, 0, none⟩), .int .i64 s] w (HPost b r cr w0 (.slice A xs.length c) (.slice N ns.length cN) (.slice (some ⟨r, 0, none⟩) xs.length cr) bud (srchG xs ns m rest t s S) rest t)
  | 0 => glr_leaf xs ns A c N cN b r cr w0 hA hN hX hn hns hnn hr0 hrb hcr bud hbud
  | m + 1 => glr_step xs ns A c N cN b r cr w0 hA hN hX hn hns hnn hr0 hrb hcr bud hbud m (glrSearch xs ns A c N cN b r cr w0 hA hN hX hn hns hnn hr0 hrb hcr bud hbud m)
end Go.Proofs.Ytdbjbkdcmhekfaa
