/- The laws MoneyTexts, MoneyBack. -/
import Derived.Test.YtchbobndobpocaaDoorMo12
namespace Go.Proofs.YtchbobndobpocaaDoor
open Go.Abs Go.IntWalk Go.Money
variable {P : Program} (hP : P = Tryd.prog)

theorem fitS {x : AV} (h : FitV td 9 x) : ∃ l : List UInt8, x = st l ∧ l.length ≤ 200000000000000 := by
  obtain ⟨l, hf, rfl⟩ := fitV_get h (d := (td 9).get rfl) rfl
  obtain ⟨s, rfl, hs⟩ := fit_str (d := (td 9).get rfl) rfl rfl hf
  refine ⟨s.data.toList, rfl, ?_⟩
  have h1 : s.data.toList.length = s.size := Array.length_toList
  have : s.size ≤ 140737488351232 := hs
  omega

theorem scmp_bs (a b : List UInt8) (h : a = b) : scmp .eql (bs a) (bs b) = true := by subst h; simp [scmp]

include hP
set_option maxHeartbeats 4000000 in
theorem moneyTexts_law : Law P td 4 [2, 9] := by
  intro xs hx
  obtain ⟨x, ys, rfl, h1, h2⟩ := fitVs_cons hx
  obtain ⟨y, zs, rfl, h3, h4⟩ := fitVs_cons h2
  obtain rfl := fitVs_nil h4
  obtain ⟨n, rfl, hn⟩ := fit64 h1
  obtain ⟨l, rfl, hl⟩ := fitS h3
  clear hx h1 h2 h3 h4
  refine e4 hP ?_
  cbv
  refine (parse_ret hP l hl).call (.cons (.pure rfl) .nil) rfl ?_
  cbv
  refine (refParse_ret hP l hl).call (.cons (.pure rfl) .nil) rfl ?_
  cbv
  refine (lives_ret hP).call .nil rfl ?_
  cbv
  refine (text_ret hP n hn).call (.cons (.pure rfl) .nil) rfl ?_
  cbv
  refine (refText_ret hP n hn).call (.cons (.pure rfl) .nil) rfl ?_
  cbv
  refine BrS.t (scmp_bs _ _ rfl) ?_
  cbv
  refine BrS.t (by simp [icmp]) ?_
  cbv
  exact ⟨_, rfl, by simp [icmp]⟩

set_option maxHeartbeats 4000000 in
theorem moneyBack_law : Law P td 5 [2, 9] := by
  intro xs hx
  obtain ⟨x, ys, rfl, h1, h2⟩ := fitVs_cons hx
  obtain ⟨y, zs, rfl, h3, h4⟩ := fitVs_cons h2
  obtain rfl := fitVs_nil h4
  obtain ⟨n, rfl, hn⟩ := fit64 h1
  obtain ⟨l, rfl, hl⟩ := fitS h3
  clear hx h1 h2 h3 h4
  have hpt := parse_text n hn
  have hts := textS_short n hn
  have hin := parse_in l
  have htp := text_parse l
  have hbad := parse_bad (l := l)
  refine e5 hP ?_
  cbv
  refine (lives_ret hP).call .nil rfl ?_
  cbv
  refine (text_ret hP n hn).call (.cons (.pure rfl) .nil) rfl ?_
  cbv
  refine (parse_ret hP (textS n) (by omega)).call (.cons (.pure rfl) .nil) rfl ?_
  cbv
  refine BrS.f (by simp [icmp, hpt]) ?_
  cbv
  refine BrS.f (by simp [icmp, hpt]) ?_
  cbv
  refine (parse_ret hP l hl).call (.cons (.pure rfl) .nil) rfl ?_
  cbv
  by_cases h0 : parseE l = 0
  · have he := htp h0
    refine BrS.f (by simp [icmp, h0]) ?_
    cbv
    refine BrS.t (by simp [icmp, h0]) ?_
    cbv
    refine (text_ret hP (parseV l) hin).call (.cons (.pure rfl) .nil) rfl ?_
    cbv
    exact ⟨_, rfl, scmp_bs _ _ he⟩
  · have he := hbad h0
    refine BrS.t (by simp [icmp, h0]) ?_
    cbv
    refine BrS.t (by simp [icmp, he]) ?_
    cbv
    exact ⟨_, rfl, rfl⟩
end Go.Proofs.YtchbobndobpocaaDoor
