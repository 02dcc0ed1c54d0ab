/- Texts: what is called of Go's library; one text that is read, one amount that is written. -/
import Derived.Test.YtchbobndobpocaaDoorMo1
namespace Go.Proofs.YtchbobndobpocaaDoor
open Go.Abs Go.IntWalk
variable {P : Program} (hP : P = Tryd.prog)
include hP

theorem cutPrefix_call {a b : Th ByteArray} (x : Th ByteArray) (y : Th Bool) (hx : x.den = ⟨(Lib.trimPrefix a.den.data.toList b.den.data.toList).toArray⟩) (hy : y.den = Lib.hasPrefix a.den.data.toList b.den.data.toList) {ob : List AO} {K : AV → List AO → Prop}
    (hk : K (.tup [AS x, AB y]) ob) : ACall P 35 [AS a, AS b] ob K := by
  subst hP
  refine ACall.kitV (c := Tryd.f35.body.getD .skip) (vs := [.string a.den, .string b.den]) (v := .tuple #[.string x.den, .bool y.den]) Tryd.func35 (by kernel_rfl) (by kernel_rfl) (by rfl) (by rfl) (fun w _ => ?_) hk
  rw [hx, hy]
  exact (Tryd.strings_CutPrefix a.den b.den w).mono fun e w' ⟨h1, h2⟩ => ⟨h1, by rw [h2]; exact ⟨rfl, rfl, rfl, Nat.le_refl _, fun _ _ => rfl⟩⟩

theorem index1_call {a b : Th ByteArray} (c : UInt8) (hb : b.den = ⟨#[c]⟩) (x : Th Int) (hx : x.den = Lib.indexByte a.den.data.toList c) {ob : List AO} {K : AV → List AO → Prop}
    (hk : K (AI .i64 x) ob) : ACall P 73 [AS a, AS b] ob K := by
  subst hP
  refine ACall.kitV (c := Tryd.f73.body.getD .skip) (vs := [.string a.den, .string ⟨#[c]⟩]) (v := .int .i64 x.den) Tryd.func73 (by kernel_rfl) (by kernel_rfl) (by simp [argsL, valT, hb]) (by rfl) (fun w _ => ?_) hk
  rw [hx]
  exact (Tryd.stringslite_Index_one a.den c w).mono fun e w' ⟨h1, h2⟩ => ⟨h1, by rw [h2]; exact ⟨rfl, rfl, rfl, Nat.le_refl _, fun _ _ => rfl⟩⟩

theorem trim1_call {a b : Th ByteArray} (c : UInt8) (hb : b.den = ⟨#[c]⟩) (hc : c.toNat < 128) (hs : a.den.size ≤ 9223372036854775807) (x : Th ByteArray) (hx : x.den = ⟨(Lib.trimB a.den.data.toList c).toArray⟩) {ob : List AO} {K : AV → List AO → Prop}
    (hk : K (AS x) ob) : ACall P 37 [AS a, AS b] ob K := by
  subst hP
  refine ACall.kitV (c := Tryd.f37.body.getD .skip) (vs := [.string a.den, .string ⟨#[c]⟩]) (v := .string x.den) Tryd.func37 (by kernel_rfl) (by kernel_rfl) (by simp [argsL, valT, hb]) (by rfl) (fun w _ => ?_) hk
  rw [hx]
  exact (Tryd.strings_Trim_one a.den c hc w hs).mono fun e w' ⟨h1, h2⟩ => ⟨h1, by rcases h2 with h2 | h2 <;> (rw [h2]; exact ⟨rfl, rfl, rfl, Nat.le_refl _, fun _ _ => rfl⟩)⟩

theorem parseOk_call {a : Th ByteArray} (x : Th Int) (hs : a.den.size ≤ 9223372036854775806) (hx : Lib.parseIntB 64 a.den.data.toList = .ok x.den) {ob : List AO} {K : AV → List AO → Prop}
    (hk : K (.tup [AI .i64 x, .c (.lit .nilIface)]) ob) : ACall P 38 [AS a, AI .i64 (.lit 10), AI .i64 (.lit 64)] ob K := by
  subst hP
  refine ACall.kitV (c := Tryd.f38.body.getD .skip) (vs := [.string a.den, .int .i64 10, .int .i64 64]) (v := .tuple #[.int .i64 x.den, .nilIface]) Tryd.func38 (by kernel_rfl) (by kernel_rfl) (by rfl) (by rfl) (fun w _ => ?_) hk
  refine (Tryd.strconv_ParseInt_10_at64_ok a.den hs x.den hx w).mono fun e w' ⟨h1, h2⟩ => ⟨h1, ?_⟩
  rcases h2 with h2 | ⟨t, h2⟩
  · rw [h2]; exact ⟨rfl, rfl, rfl, Nat.le_refl _, fun _ _ => rfl⟩
  · rw [h2]; exact Lib.bytesWorld_below w 5 t

set_option maxHeartbeats 4000000 in
theorem parse_1230 : Ret P 16 [AS (.lit ⟨#[49, 50, 46, 51, 48]⟩)] (.tup [AI .i64 (.lit 1230), AI .i64 (.lit 0)]) := by
  refine e16 hP ?_
  cbv
  refine cutPrefix_call hP (.lit ⟨#[49, 50, 46, 51, 48]⟩) (.lit false) (by rfl) (by rfl) ?_
  cbv
  refine e36 hP ?_
  cbv
  refine e44 hP ?_
  cbv
  refine e59 hP ?_
  cbv
  refine index1_call hP 46 rfl (.lit 2) (by rfl) ?_
  cbv
  refine ADraw.of (ty hP) (mo hP) rfl ?_
  cbv
  iterate 12 (apply DOp.is; · intro J hJ; cbv; exact hJ
              cbv)
  refine ACode.rounds (ty hP) 6 ?_
  cbv
  iterate 4
    (refine e45 hP ?_
     cbv)
  refine parseOk_call hP (.lit 1230) (by decide) (by rfl) ?_
  cbv
  exact .tup' (.cons (.int rfl) (.cons (.int rfl) .nil))

set_option maxHeartbeats 4000000 in
theorem text_m5 : Ret P 18 [AI .i64 (.lit (-5))] (AS (.lit ⟨#[45, 48, 46, 48, 53]⟩)) := by
  refine e18 hP ?_
  cbv
  refine (size_ret hP (-5) (by decide)).as (AI .u64 (.lit 5)) (.int (by decide)) (.cons (.int rfl) .nil) rfl ?_
  cbv
  refine format_call hP 105 rfl (by decide) (.lit ⟨#[49, 48, 53]⟩) (by simp [Lib.decDigits]) ?_
  cbv
  refine format_call hP 0 rfl (by decide) (.lit ⟨#[48]⟩) (by simp [Lib.decDigits]) ?_
  cbv
  exact .str rfl
end Go.Proofs.YtchbobndobpocaaDoor
