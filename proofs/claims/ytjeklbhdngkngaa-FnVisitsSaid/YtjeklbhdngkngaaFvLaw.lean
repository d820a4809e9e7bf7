/- The law FnVisits. -/
import Derived.Test.YtjeklbhdngkngaaFvS
namespace Go.Proofs.Ytjeklbhdngkngaa
open Go.RowKit
set_option linter.unusedVariables false

set_option maxHeartbeats 6400000 in
set_option maxRecDepth 100000 in
theorem lawFnVisits_ok (A : Option Addr) (c : Nat) (ns : List Int) (B : Option Addr) (d : Nat) (ms : List Int) (w : World) (hA : BytesAt w A ns) (hBa : ByteIn ns) (hl : ns.length ≤ maxLen) (hB : BytesAt w B ms) (hBb : ByteIn ms) (hm : ms.length ≤ maxLen) :
    Calls Try.prog 8 #[.slice A ns.length c, .slice B ms.length d] w fun e w' => e = .returned (.bool true) ∧ Below w.heap.size w w' := by
  have HA := hid hA
  have HB := hid hB
  have HBa := hid hBa
  have HBb := hid hBb
  clear hA hB hBa hBb
  go_enter Try.func8, Try.ntmps8
  go_wp2_with fail
  refine (r8Long_ok A c ns.length B d ms.length _ hl hm).mono ?_
  rintro e w1 ⟨rfl, rfl⟩
  cases hlong : (decide (1048576 < ns.length) || decide (1048576 < ms.length))
  case true =>
    go_wp2_with fail
    go_ret
    exact ⟨rfl, Below.refl _ _⟩
  have hl2 : ns.length ≤ 1048576 := by simp at hlong; omega
  have hm2 : ms.length ≤ 1048576 := by simp at hlong; omega
  clear hlong
  go_wp2_with fail
  refine (r8Visits_ok A c ns _ HA.out HBa.out hl2).mono ?_
  rintro e w1 ⟨xs, g0, c0, rfl, hd, ho, hb⟩
  have DX := hid hd
  have B1 := hid hb
  have O1 := hid ho
  have hxl := hd.len
  clear hd ho hb
  go_wp2_with fail
  refine (r8Visits_ok B d ms _ (HB.out.below B1.out) HBb.out hm2).mono ?_
  rintro e w2 ⟨ys, g1, c1, rfl, hd, ho, hb⟩
  have DY := hid hd
  have B2 := hid (below_up B1.out B1.out.size hb)
  have OX := hid (own_below O1.out hb)
  have OY := hid ho
  have hyl := hd.len
  clear hd ho hb O1
  go_wp2_with fail
  refine (implMvC_ok g0 c0 xs g1 c1 ys _ (rows_own OX.out (by simp) (cellsVisit_len _)) DX.out.ok (by omega) (rows_own OY.out (by simp) (cellsVisit_len _)) DY.out.ok (by omega)).mono ?_
  rintro e w3 ⟨A3, c3, he, ho, hno, hb⟩
  rw [fMv_both DX.out DY.out] at he ho
  obtain ⟨M, hM⟩ : ∃ M, bothV xs ys = M := ⟨_, rfl⟩
  have HMM := hid hM
  have hto := bothV_to DX.out DY.out
  have hvis := bothV_visits DX.out DY.out
  have hok := bothV_ok DX.out DY.out
  have hwho := bothV_who DX.out DY.out
  have hlen := bothV_length xs ys
  rw [hM] at hto hvis hok hwho hlen
  dsimp only at he ho
  rw [hM] at he ho
  subst he
  have hML : M.length ≤ 18 := by omega
  have HTO := hid hto
  have HVI := hid hvis
  have HOK := hid hok
  have HWHO := hid hwho
  have HLN := hid hlen
  have B3 := hid (below_up B2.out B2.out.size hb)
  have X3 := hid (own_below OX.out hb)
  have Y3 := hid (own_below OY.out hb)
  have M3 := hid ho
  have HNO := hid hno
  have eq1 : decide ((M.length : Int) = (xs.length : Int) + (ys.length : Int)) = true := decide_eq_true (by omega)
  clear hM hto hvis hok hwho hlen ho hno hb OX OY
  have R3 := hid (rows_own M3.out (by simp) (cellsVisit_len M))
  go_wp2_with fail
  any_goals (first | (rename_i hq; exact absurd (of_decide_eq_true eq1) hq) | fail)
  rename (M.length : Int) = (xs.length : Int) + (ys.length : Int) => hq
  clear hq
  refine (ValidVisits_ok A3 c3 M _ R3.out HOK.out (by omega)).mono ?_
  rintro e w4 ⟨rfl, hb⟩
  rw [HVI.out]
  have B4 := hid (below_up B3.out B3.out.size hb)
  have X4 := hid (own_below X3.out hb)
  have Y4 := hid (own_below Y3.out hb)
  have M4 := hid (own_below M3.out hb)
  have R4 := hid (R3.out.below hb)
  clear hb X3 Y3 M3 R3 B3
  go_wp2_with fail
  refine (r8Wide_ok B d ms 60 60 500 _ (HB.out.below B4.out) HBb.out hm2 (by omega) rfl (by omega) (by omega)).mono ?_
  rintro e w5 ⟨⟨dy, rfl, d0, d1⟩, rfl⟩
  go_wp2_with fail
  refine Calls.mono (r8At_ok B d ms 62 100 _ (HB.out.below B4.out) HBb.out hm2 (by omega) (by omega)) ?_
  rintro e w5 ⟨⟨gp, rfl, p0, p1⟩, rfl⟩
  go_wp2_with fail
  refine (implMissC_ok A3 c3 HNO.out M dy gp _ R4.out HOK.out (by omega)).mono ?_
  rintro e w5 ⟨A5, c5, he, ho, hb⟩
  rw [fMiss_both HVI.out (by omega) (by omega)] at he ho
  obtain ⟨MI, hMI⟩ : ∃ l, missV M dy gp = l := ⟨_, rfl⟩
  rw [hMI] at he ho
  dsimp only at he ho
  subst he
  have HMI := hid hMI
  have SM := hid (strs_own ho)
  have B5 := hid (below_up B4.out B4.out.size hb)
  have X5 := hid (own_below X4.out hb)
  have Y5 := hid (own_below Y4.out hb)
  have M5 := hid (own_below M4.out hb)
  have R5 := hid (R4.out.below hb)
  clear hMI ho hb X4 Y4 M4 R4
  go_wp2_with fail
  refine (specCust_ok A3 c3 M _ R5.out HOK.out (by omega)).mono ?_
  rintro e w6 ⟨A6, c6, he, ho, hb⟩
  rw [fCust_both HVI.out] at he ho
  obtain ⟨NM, hNM⟩ : ∃ l, setOf (namesN (custN M) M.length) = l := ⟨_, rfl⟩
  have hNl : NM.length ≤ 18 := by
    have h1 := setOf_len (namesN (custN M) M.length)
    have h2 := namesN_len (custN_len M) M.length
    rw [hNM] at h1
    omega
  have hMl : MI.length ≤ 18 := by
    have h1 := HMI.out
    unfold missV at h1
    rw [hNM] at h1
    have h2 := List.length_filter_le (fun s => !missP M dy gp s) NM
    rw [h1] at h2
    omega
  rw [hNM] at he ho
  dsimp only at he ho
  subst he
  have HNM := hid hNM
  have SN := hid (strs_own ho)
  have SM6 := hid (SM.out.below hb)
  have B6 := hid (below_up B5.out B5.out.size hb)
  have X6 := hid (rows_own (own_below X5.out hb) (by simp) (cellsVisit_len xs))
  have Y6 := hid (rows_own (own_below Y5.out hb) (by simp) (cellsVisit_len ys))
  have R6 := hid (R5.out.below hb)
  clear hNM ho hb X5 Y5 M5 R5 SM B5
  go_wp2_with fail
  go_loopw [15] (fun i wr => ∃ k : Nat, k ≤ NM.length ∧ i = .int .i64 (k : Int) ∧ Below w6.heap.size w6 wr) (fun i _ => NM.length - (intOf i).toNat)
  case atStart => exact ⟨0, Nat.zero_le _, rfl, Below.refl _ _⟩
  case round =>
    rename World => wo
    obtain ⟨k, hk, rfl, hbel⟩ := hrel
    by_cases hkl : k < NM.length
    · have HBE := hid hbel
      clear hbel
      obtain ⟨bN, oN, rfl, hNlt, hNc⟩ := SN.out (by intro e; rw [e] at hkl; exact absurd hkl (by simp))
      obtain ⟨z, hz⟩ : ∃ z, NM[k] = z := ⟨_, rfl⟩
      have hzm : z ∈ setOf (namesN (custN M) M.length) := by rw [HNM.out, ← hz]; exact List.getElem_mem hkl
      have CN := hid (show ∀ w', Below w6.heap.size w6 w' → w'.cell? ⟨bN, oN + k, none⟩ = some (.string (tB z)) from fun w' hb => (hb.cell (p := ⟨bN, oN + k, none⟩) hNlt).trans ((hNc k NM[k] (List.getElem?_eq_getElem hkl)).trans (by rw [hz]; rfl)))
      obtain ⟨n, hV1, hG1, hn1, hgt, hla, hhd, hne, hdb, hdu⟩ := cust_facts HTO.out hzm
      have HL0 := hid (show (if visF M (tB z) = [] then (3 : Int) else 0) = 0 by rw [if_neg hne])
      obtain ⟨V, hV⟩ : ∃ V, visF M (tB z) = V := ⟨_, rfl⟩
      rw [hV] at hV1 hgt hla hhd hne hdb hdu
      obtain ⟨dl, hdl⟩ : ∃ x, lastI M (tB z) = x := ⟨_, rfl⟩
      rw [hdl] at hla
      have hdlb : 0 ≤ dl ∧ dl ≤ 100000 := by rw [← hla]; exact hdb n
      obtain ⟨r1, hr1⟩ : ∃ r, spentI xs (tB z) = r := ⟨_, rfl⟩
      obtain ⟨r2, hr2⟩ : ∃ r, spentI ys (tB z) = r := ⟨_, rfl⟩
      have hr3 : spentI M (tB z) = r1 + r2 := by rw [← HMM.out, spentI_both, hr1, hr2]
      have hb1 := spentI_bd (visits_amt DX.out.to) (by omega) (tB z)
      have hb2 := spentI_bd (visits_amt DY.out.to) (by omega) (tB z)
      rw [hr1] at hb1
      rw [hr2] at hb2
      have hmi := inT_all (d := dy) (gp := gp) hzm
      rw [HMI.out, hdl] at hmi
      have HZM := hid hzm
      have HGT := hid hgt
      have HLA := hid hla
      have HHD := hid hhd
      have HDB := hid hdb
      have HDU := hid hdu
      have HV := hid hV
      have HV1 := hid hV1
      have HDL := hid hdl
      have HR1 := hid hr1
      have HR2 := hid hr2
      have HR3 := hid hr3
      have HMI2 := hid hmi
      obtain ⟨dl0, dl1⟩ := hdlb
      obtain ⟨hb10, hb11⟩ := hb1
      obtain ⟨hb20, hb21⟩ := hb2
      have q0 : (0 : Int) ≤ (k : Int) := by omega
      have q1 : (k : Int) < (NM.length : Int) := by omega
      clear hNc hNlt hz hzm hgt hla hhd hdb hdu hV hV1 hne hdl hr1 hr2 hr3 hmi hG1
      have n0 := CN.out _ HBE.out
      go_wp2_with fail
      refine (gaps_gen A3 c3 M (tB z) _ (R6.out.below HBE.out) HOK.out (by omega) HNO.out HVI.out (gapsT V n) HGT.out n (gapsT_length _ _)).mono ?_
      rintro e w7 ⟨⟨g7, c7, rfl, ho⟩, hb⟩
      have B7 := hid (below_up HBE.out HBE.out.size hb)
      have G7 := hid ho
      have n7 := CN.out _ B7.out
      clear ho hb n0
      go_wp2_with fail
      refine (last_gen A3 c3 M (tB z) _ (R6.out.below B7.out) HOK.out (by omega) HNO.out HVI.out dl 0 HDL.out HL0.out).mono ?_
      rintro e w8 ⟨rfl, hb⟩
      have B8 := hid (below_up B7.out B7.out.size hb)
      have G8 := hid (own_below G7.out hb)
      have n8 := CN.out _ B8.out
      clear hb n7 G7
      go_wp2_with fail
      refine (specSpent_ok _ _ xs (tB z) _ (X6.out.below B8.out) DX.out.ok DX.out.visits r1 HR1.out).mono ?_
      rintro e w9 ⟨rfl, hb⟩
      have B9 := hid (below_up B8.out B8.out.size hb)
      have G9 := hid (own_below G8.out hb)
      have n9 := CN.out _ B9.out
      clear hb n8 G8
      go_wp2_with fail
      refine (specSpent_ok _ _ ys (tB z) _ (Y6.out.below B9.out) DY.out.ok DY.out.visits r2 HR2.out).mono ?_
      rintro e w10 ⟨rfl, hb⟩
      have B10 := hid (below_up B9.out B9.out.size hb)
      have G10 := hid (own_below G9.out hb)
      have n10 := CN.out _ B10.out
      clear hb n9 G9
      go_wp2_with fail
      refine (specSpent_ok A3 c3 M (tB z) _ (R6.out.below B10.out) HOK.out HVI.out (r1 + r2) HR3.out).mono ?_
      rintro e w11 ⟨rfl, hb⟩
      have B11 := hid (below_up B10.out B10.out.size hb)
      have G11 := hid (own_below G10.out hb)
      clear hb n10 G10 B7 B8 B9 B10
      go_wp2_with fail
      have R11 := hid (R6.out.below B11.out)
      go_loopw [26, 27, 28] (fun f m l wl => ∃ j : Nat, j ≤ M.length ∧ l = .int .i64 (j : Int) ∧ m = .int .i64 ((visF (M.take j) (tB z)).length : Int) ∧ f = .int .i64 (headD (visF (M.take j) (tB z))) ∧ Below w11.heap.size w11 wl) (fun _ _ l _ => M.length - (intOf l).toNat)
      case atStart => exact ⟨0, Nat.zero_le _, rfl, by simp [visF], by simp [visF, headD], Below.refl _ _⟩
      case round =>
        obtain ⟨j, hj, rfl, rfl, rfl, hbel⟩ := hrel
        have HBE2 := hid hbel
        clear hbel
        by_cases hjl : j < M.length
        · have B12 := hid (below_up B11.out B11.out.size HBE2.out)
          obtain ⟨bM, oM, rfl, hMlt, hMc⟩ := (R11.out.below HBE2.out) (by intro e; rw [List.map_eq_nil_iff] at e; rw [e] at hjl; exact absurd hjl (by simp))
          have hx0 : wr.cell? ⟨bM, oM + j * 4, none⟩ = some (.int .i64 M[j].fDay) := hMc j _ (by rw [List.getElem?_map, List.getElem?_eq_getElem hjl]; rfl) 0 _ rfl
          have hx1 : wr.cell? ⟨bM, oM + j * 4 + 1, none⟩ = some (.string M[j].fWho) := hMc j _ (by rw [List.getElem?_map, List.getElem?_eq_getElem hjl]; rfl) 1 _ rfl
          have n12 := CN.out _ B12.out
          obtain ⟨t, ht⟩ : ∃ t, headD (visF (M.take j) (tB z)) = t := ⟨_, rfl⟩
          obtain ⟨q, hq⟩ : ∃ q, (visF (M.take j) (tB z)).length = q := ⟨_, rfl⟩
          have hdi : ∀ y ∈ visF (M.take j) (tB z), DayIn y := fun y hy => visits_day HTO.out y (List.mem_of_mem_take (List.mem_filter.1 hy).1)
          have htb := headD_bd hdi
          have hdj := visits_day HTO.out M[j] (List.getElem_mem hjl)
          have hqb : q ≤ 18 := by have h1 := visF_le (M.take j) (tB z); rw [List.length_take] at h1; omega
          rw [ht] at htb
          unfold DayIn at hdj
          obtain ⟨htb0, htb1⟩ := htb
          obtain ⟨hdj0, hdj1⟩ := hdj
          have p0' : (0 : Int) ≤ (j : Int) := by omega
          have p1' : (j : Int) < (M.length : Int) := by omega
          rw [ht, hq]
          cases dq : (M[j].fWho.toList == (tB z).toList)
          · have HE := hid (headD_no (who := tB z) hjl dq)
            have HT := hid ht
            have HQ := hid hq
            clear hMc ht hq hdi
            go_wp2_with fail
            go_region
            go_wp2_with fail
            go_roundw
            case rel => exact ⟨j + 1, by omega, by go_num, by rw [HE.out, HQ.out], by rw [HE.out, HT.out], HBE2.out.drew⟩
            case measure => simp [intOf]; omega
          · have HE := hid (headD_yes (who := tB z) hjl dq)
            have HT := hid ht
            have HQ := hid hq
            by_cases ht0 : t < 0
            · have HD0 := hid (headD_app0 (x := M[j]) hdi (by rw [ht]; exact ht0))
              clear hMc ht hq hdi
              go_wp2_with fail
              go_region
              go_wp2_with fail
              go_roundw
              case rel => exact ⟨j + 1, by omega, by go_num, by rw [HE.out, List.length_append, HQ.out]; go_num, by rw [HE.out, HD0.out], HBE2.out.drew⟩
              case measure => simp [intOf]; omega
            · have HD0 := hid (headD_app (x := M[j]) (show 0 ≤ headD (visF (M.take j) (tB z)) by rw [ht]; omega))
              clear hMc ht hq hdi
              go_wp2_with fail
              go_region
              go_wp2_with fail
              go_roundw
              case rel => exact ⟨j + 1, by omega, by go_num, by rw [HE.out, List.length_append, HQ.out]; go_num, by rw [HE.out, HD0.out, HT.out], HBE2.out.drew⟩
              case measure => simp [intOf]; omega
        · have hj2 : j = M.length := by omega
          subst hj2
          rw [List.take_length, HV.out, HV1.out, HHD.out]
          have B12 := hid (below_up B11.out B11.out.size HBE2.out)
          have G12 := hid (own_below G11.out HBE2.out)
          clear hj B11 HBE2 G11 R11
          have hpc : ((n + 1 : Nat) : Int) = (n : Int) + 1 := by omega
          rw [hpc]
          clear hpc
          obtain ⟨f0, hf0⟩ : ∃ x, dayAt V 0 = x := ⟨_, rfl⟩
          have HF0 := hid hf0
          rw [hf0]
          clear hf0
          have hn18 : n ≤ 18 := by omega
          go_wp2_with fail
          go_loop [26, 29] (fun f l => ∃ j : Nat, j ≤ n ∧ l = .int .i64 (j : Int) ∧ f = .int .i64 (dayAt V j)) (fun _ l => n - (intOf l).toNat)
          case atStart => exact ⟨0, Nat.zero_le _, rfl, by rw [HF0.out]⟩
          case round =>
            obtain ⟨j, hj, rfl, rfl⟩ := hrel
            by_cases hjl : j < n
            · have hb0 := HDB.out j
              have hb1 := HDB.out (j + 1)
              have hup := HDU.out j hjl
              obtain ⟨gj, hgj⟩ : ∃ x, dayAt V (j + 1) - dayAt V j = x := ⟨_, rfl⟩
              obtain ⟨dj, hdj⟩ : ∃ x, dayAt V j = x := ⟨_, rfl⟩
              have hcg : wr.cell? ⟨g7, j, none⟩ = some (.int .i64 gj) := by
                rw [G12.out.cellAt j (by omega), List.getElem?_map, gapsT_at V hjl, hgj]
                rfl
              have HE := hid (show dj + gj = dayAt V (j + 1) by omega)
              have g0' : 0 ≤ gj := by omega
              have g1' : gj ≤ 100000 := by omega
              rw [hdj] at hb0
              obtain ⟨hb00, hb01⟩ := hb0
              have p0' : (0 : Int) ≤ (j : Int) := by omega
              have p1' : (j : Int) < (n : Int) := by omega
              rw [hdj]
              clear hgj hdj hb1 hup
              go_wp2_with fail
              go_round
              case rel => exact ⟨j + 1, by omega, by go_num, by rw [← HE.out]⟩
              case measure => simp [intOf]; omega
            · have hj2 : j = n := by omega
              subst hj2
              rw [HLA.out]
              have SM7 := hid (SM6.out.below B12.out)
              clear hj
              go_wp2_with fail
              rename World => w12
              go_loopw [30, 31] (fun f l wl => ∃ q : Nat, q ≤ MI.length ∧ l = .int .i64 (q : Int) ∧ f = .bool (inT MI z q) ∧ Below w12.heap.size w12 wl) (fun _ l _ => MI.length - (intOf l).toNat)
              case atStart => exact ⟨0, Nat.zero_le _, rfl, by rw [inT_zero], Below.refl _ _⟩
              case round =>
                obtain ⟨q, hq, rfl, rfl, hbel⟩ := hrel
                have HBE3 := hid hbel
                clear hbel
                by_cases hql : q < MI.length
                · obtain ⟨bI, oI, rfl, hIlt, hIc⟩ := SM7.out (by intro e; rw [e] at hql; exact absurd hql (by simp))
                  have hcI : wr.cell? ⟨bI, oI + q, none⟩ = some (.string (tB MI[q])) := (HBE3.out.cell (p := ⟨bI, oI + q, none⟩) hIlt).trans (hIc q MI[q] (List.getElem?_eq_getElem hql))
                  have n13 := CN.out _ (below_up B12.out B12.out.size HBE3.out)
                  have p0' : (0 : Int) ≤ (q : Int) := by omega
                  have p1' : (q : Int) < (MI.length : Int) := by omega
                  have HS := inT_succ (z := z) hql
                  clear hIc
                  cases dz : inT MI z q
                  · cases dq : ((tB MI[q]).toList == (tB z).toList)
                    · have hne9 : ¬ MI[q] = z := by rw [toList_tB, toList_tB] at dq; intro e; rw [e] at dq; simp at dq
                      have HT := hid (show inT MI z (q + 1) = false by rw [HS, dz, decide_eq_false hne9]; rfl)
                      clear HS hne9 dz
                      go_wp2_with fail
                      go_quiet (fail)
                      go_wp2_with fail
                      go_roundw
                      case rel => exact ⟨q + 1, by omega, by go_num, by rw [HT.out], below_drewN' HBE3.out _⟩
                      case measure => simp [intOf]; omega
                    · have he9 : MI[q] = z := by rw [toList_tB, toList_tB] at dq; simpa using dq
                      have HT := hid (show inT MI z (q + 1) = true by rw [HS, dz, decide_eq_true he9]; rfl)
                      clear HS he9 dz
                      go_wp2_with fail
                      go_quiet (fail)
                      go_wp2_with fail
                      go_roundw
                      case rel => exact ⟨q + 1, by omega, by go_num, by rw [HT.out], below_drewN' HBE3.out _⟩
                      case measure => simp [intOf]; omega
                  · have HT := hid (show inT MI z (q + 1) = true by rw [HS, dz]; rfl)
                    clear HS dz
                    go_wp2_with fail
                    go_quiet (fail)
                    go_wp2_with fail
                    go_roundw
                    case rel => exact ⟨q + 1, by omega, by go_num, by rw [HT.out], below_drewN' HBE3.out _⟩
                    case measure => simp [intOf]; omega
                · have hq2 : q = MI.length := by omega
                  subst hq2
                  rw [HMI2.out]
                  have B13 := hid (below_up B12.out B12.out.size HBE3.out)
                  clear hq
                  by_cases hgp : gp < dy - dl
                  · rw [decide_eq_true hgp]
                    go_wp2_with fail
                    go_roundw
                    case rel => exact ⟨k + 1, by omega, by go_num, B13.out⟩
                    case measure => simp [intOf]; omega
                  · rw [decide_eq_false hgp]
                    go_wp2_with fail
                    go_roundw
                    case rel => exact ⟨k + 1, by omega, by go_num, B13.out⟩
                    case measure => simp [intOf]; omega
    · have q1 : ¬ (k : Int) < (NM.length : Int) := by omega
      have HBE := hid hbel
      clear hbel
      have R7 := hid (R6.out.below HBE.out)
      have hnb : visF M ⟨#[110, 111, 98, 111, 100, 121]⟩ = [] := visF_long HWHO.out (by decide)
      have HNB := hid (show (if visF M ⟨#[110, 111, 98, 111, 100, 121]⟩ = [] then (3 : Int) else 0) = 3 by rw [if_pos hnb])
      obtain ⟨dd, hdd⟩ : ∃ x, lastI M ⟨#[110, 111, 98, 111, 100, 121]⟩ = x := ⟨_, rfl⟩
      have HDD := hid hdd
      clear hnb hdd
      go_wp2_with fail
      refine (last_gen A3 c3 M _ _ R7.out HOK.out (by omega) HNO.out HVI.out dd 3 HDD.out HNB.out).mono ?_
      rintro e w8 ⟨rfl, hb⟩
      have B8 := hid (below_up B6.out B6.out.size (below_up HBE.out HBE.out.size hb))
      clear hb
      go_wp2_with fail
      go_ret
      exact ⟨rfl, B8.out⟩
end Go.Proofs.Ytjeklbhdngkngaa
