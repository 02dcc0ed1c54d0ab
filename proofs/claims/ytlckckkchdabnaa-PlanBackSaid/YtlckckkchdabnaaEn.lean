/- The functions, entered; printed by gen_enter.py. -/
import Derived.Test.YtlckckkchdabnaaA21
import Derived.Test.YtlckckkchdabnaaA17
import Derived.Test.YtlckckkchdabnaaTd
namespace Go.Proofs.Ytlckckkchdabnaa
open Go.Abs
theorem e3 {P : Program} (hP : P = Try.prog) {args : List AV} {ob : List AO} {K : AV → List AO → Prop} (h : abody P td (Try.f3.body.getD .skip) Try.f3.results.toList Try.f3.ntmps args ob K) : ACall P 3 args ob K := by
  subst hP; exact acall_enter td_ok Try.func3 (by kernel_rfl) (by kernel_rfl) h
theorem e4 {P : Program} (hP : P = Try.prog) {args : List AV} {ob : List AO} {K : AV → List AO → Prop} (h : abody P td (Try.f4.body.getD .skip) Try.f4.results.toList Try.f4.ntmps args ob K) : ACall P 4 args ob K := by
  subst hP; exact acall_enter td_ok Try.func4 (by kernel_rfl) (by kernel_rfl) h
theorem e5 {P : Program} (hP : P = Try.prog) {args : List AV} {ob : List AO} {K : AV → List AO → Prop} (h : abody P td (Try.f5.body.getD .skip) Try.f5.results.toList Try.f5.ntmps args ob K) : ACall P 5 args ob K := by
  subst hP; exact acall_enter td_ok Try.func5 (by kernel_rfl) (by kernel_rfl) h
theorem e6 {P : Program} (hP : P = Try.prog) {args : List AV} {ob : List AO} {K : AV → List AO → Prop} (h : abody P td (Try.f6.body.getD .skip) Try.f6.results.toList Try.f6.ntmps args ob K) : ACall P 6 args ob K := by
  subst hP; exact acall_enter td_ok Try.func6 (by kernel_rfl) (by kernel_rfl) h
theorem e7 {P : Program} (hP : P = Try.prog) {args : List AV} {ob : List AO} {K : AV → List AO → Prop} (h : abody P td (Try.f7.body.getD .skip) Try.f7.results.toList Try.f7.ntmps args ob K) : ACall P 7 args ob K := by
  subst hP; exact acall_enter td_ok Try.func7 (by kernel_rfl) (by kernel_rfl) h
theorem e8 {P : Program} (hP : P = Try.prog) {args : List AV} {ob : List AO} {K : AV → List AO → Prop} (h : abody P td (Try.f8.body.getD .skip) Try.f8.results.toList Try.f8.ntmps args ob K) : ACall P 8 args ob K := by
  subst hP; exact acall_enter td_ok Try.func8 (by kernel_rfl) (by kernel_rfl) h
theorem e9 {P : Program} (hP : P = Try.prog) {args : List AV} {ob : List AO} {K : AV → List AO → Prop} (h : abody P td (Try.f9.body.getD .skip) Try.f9.results.toList Try.f9.ntmps args ob K) : ACall P 9 args ob K := by
  subst hP; exact acall_enter td_ok Try.func9 (by kernel_rfl) (by kernel_rfl) h
theorem e10 {P : Program} (hP : P = Try.prog) {args : List AV} {ob : List AO} {K : AV → List AO → Prop} (h : abody P td (Try.f10.body.getD .skip) Try.f10.results.toList Try.f10.ntmps args ob K) : ACall P 10 args ob K := by
  subst hP; exact acall_enter td_ok Try.func10 (by kernel_rfl) (by kernel_rfl) h
theorem e11 {P : Program} (hP : P = Try.prog) {args : List AV} {ob : List AO} {K : AV → List AO → Prop} (h : abody P td (Try.f11.body.getD .skip) Try.f11.results.toList Try.f11.ntmps args ob K) : ACall P 11 args ob K := by
  subst hP; exact acall_enter td_ok Try.func11 (by kernel_rfl) (by kernel_rfl) h
theorem e12 {P : Program} (hP : P = Try.prog) {args : List AV} {ob : List AO} {K : AV → List AO → Prop} (h : abody P td (Try.f12.body.getD .skip) Try.f12.results.toList Try.f12.ntmps args ob K) : ACall P 12 args ob K := by
  subst hP; exact acall_enter td_ok Try.func12 (by kernel_rfl) (by kernel_rfl) h
theorem e13 {P : Program} (hP : P = Try.prog) {args : List AV} {ob : List AO} {K : AV → List AO → Prop} (h : abody P td (Try.f13.body.getD .skip) Try.f13.results.toList Try.f13.ntmps args ob K) : ACall P 13 args ob K := by
  subst hP; exact acall_enter td_ok Try.func13 (by kernel_rfl) (by kernel_rfl) h
theorem e14 {P : Program} (hP : P = Try.prog) {args : List AV} {ob : List AO} {K : AV → List AO → Prop} (h : abody P td (Try.f14.body.getD .skip) Try.f14.results.toList Try.f14.ntmps args ob K) : ACall P 14 args ob K := by
  subst hP; exact acall_enter td_ok Try.func14 (by kernel_rfl) (by kernel_rfl) h
theorem e15 {P : Program} (hP : P = Try.prog) {args : List AV} {ob : List AO} {K : AV → List AO → Prop} (h : abody P td (Try.f15.body.getD .skip) Try.f15.results.toList Try.f15.ntmps args ob K) : ACall P 15 args ob K := by
  subst hP; exact acall_enter td_ok Try.func15 (by kernel_rfl) (by kernel_rfl) h
theorem e16 {P : Program} (hP : P = Try.prog) {args : List AV} {ob : List AO} {K : AV → List AO → Prop} (h : abody P td (Try.f16.body.getD .skip) Try.f16.results.toList Try.f16.ntmps args ob K) : ACall P 16 args ob K := by
  subst hP; exact acall_enter td_ok Try.func16 (by kernel_rfl) (by kernel_rfl) h
theorem e17 {P : Program} (hP : P = Try.prog) {args : List AV} {ob : List AO} {K : AV → List AO → Prop} (h : abody P td (Try.f17.body.getD .skip) Try.f17.results.toList Try.f17.ntmps args ob K) : ACall P 17 args ob K := by
  subst hP; exact acall_enter td_ok Try.func17 (by kernel_rfl) (by kernel_rfl) h
theorem e18 {P : Program} (hP : P = Try.prog) {args : List AV} {ob : List AO} {K : AV → List AO → Prop} (h : abody P td (Try.f18.body.getD .skip) Try.f18.results.toList Try.f18.ntmps args ob K) : ACall P 18 args ob K := by
  subst hP; exact acall_enter td_ok Try.func18 (by kernel_rfl) (by kernel_rfl) h
theorem e19 {P : Program} (hP : P = Try.prog) {args : List AV} {ob : List AO} {K : AV → List AO → Prop} (h : abody P td (Try.f19.body.getD .skip) Try.f19.results.toList Try.f19.ntmps args ob K) : ACall P 19 args ob K := by
  subst hP; exact acall_enter td_ok Try.func19 (by kernel_rfl) (by kernel_rfl) h
theorem e20 {P : Program} (hP : P = Try.prog) {args : List AV} {ob : List AO} {K : AV → List AO → Prop} (h : abody P td (Try.f20.body.getD .skip) Try.f20.results.toList Try.f20.ntmps args ob K) : ACall P 20 args ob K := by
  subst hP; exact acall_enter td_ok Try.func20 (by kernel_rfl) (by kernel_rfl) h
theorem e21 {P : Program} (hP : P = Try.prog) {args : List AV} {ob : List AO} {K : AV → List AO → Prop} (h : abody P td (Try.f21.body.getD .skip) Try.f21.results.toList Try.f21.ntmps args ob K) : ACall P 21 args ob K := by
  subst hP; exact acall_enter td_ok Try.func21 (by kernel_rfl) (by kernel_rfl) h
theorem e22 {P : Program} (hP : P = Try.prog) {args : List AV} {ob : List AO} {K : AV → List AO → Prop} (h : abody P td (Try.f22.body.getD .skip) Try.f22.results.toList Try.f22.ntmps args ob K) : ACall P 22 args ob K := by
  subst hP; exact acall_enter td_ok Try.func22 (by kernel_rfl) (by kernel_rfl) h
theorem e23 {P : Program} (hP : P = Try.prog) {args : List AV} {ob : List AO} {K : AV → List AO → Prop} (h : abody P td (Try.f23.body.getD .skip) Try.f23.results.toList Try.f23.ntmps args ob K) : ACall P 23 args ob K := by
  subst hP; exact acall_enter td_ok Try.func23 (by kernel_rfl) (by kernel_rfl) h
theorem e24 {P : Program} (hP : P = Try.prog) {args : List AV} {ob : List AO} {K : AV → List AO → Prop} (h : abody P td (Try.f24.body.getD .skip) Try.f24.results.toList Try.f24.ntmps args ob K) : ACall P 24 args ob K := by
  subst hP; exact acall_enter td_ok Try.func24 (by kernel_rfl) (by kernel_rfl) h
theorem e25 {P : Program} (hP : P = Try.prog) {args : List AV} {ob : List AO} {K : AV → List AO → Prop} (h : abody P td (Try.f25.body.getD .skip) Try.f25.results.toList Try.f25.ntmps args ob K) : ACall P 25 args ob K := by
  subst hP; exact acall_enter td_ok Try.func25 (by kernel_rfl) (by kernel_rfl) h
theorem e26 {P : Program} (hP : P = Try.prog) {args : List AV} {ob : List AO} {K : AV → List AO → Prop} (h : abody P td (Try.f26.body.getD .skip) Try.f26.results.toList Try.f26.ntmps args ob K) : ACall P 26 args ob K := by
  subst hP; exact acall_enter td_ok Try.func26 (by kernel_rfl) (by kernel_rfl) h
theorem e27 {P : Program} (hP : P = Try.prog) {args : List AV} {ob : List AO} {K : AV → List AO → Prop} (h : abody P td (Try.f27.body.getD .skip) Try.f27.results.toList Try.f27.ntmps args ob K) : ACall P 27 args ob K := by
  subst hP; exact acall_enter td_ok Try.func27 (by kernel_rfl) (by kernel_rfl) h
theorem e28 {P : Program} (hP : P = Try.prog) {args : List AV} {ob : List AO} {K : AV → List AO → Prop} (h : abody P td (Try.f28.body.getD .skip) Try.f28.results.toList Try.f28.ntmps args ob K) : ACall P 28 args ob K := by
  subst hP; exact acall_enter td_ok Try.func28 (by kernel_rfl) (by kernel_rfl) h
end Go.Proofs.Ytlckckkchdabnaa
