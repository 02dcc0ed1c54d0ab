/- The functions, entered; printed by gen_enter.py. -/
import Derived.Test.YtchbobndobpocaaDoorA23
import Derived.Test.YtchbobndobpocaaDoorTdM
import Derived.Test.YtchbobndobpocaaDoorMoG
namespace Go.Proofs.YtchbobndobpocaaDoor
open Go.Abs
theorem e3 {P : Program} (hP : P = Tryd.prog) {args : List AV} {ob : List AO} {K : AV → List AO → Prop} (h : abody P td (Tryd.f3.body.getD .skip) Tryd.f3.results.toList Tryd.f3.ntmps args ob K) : ACall P 3 args ob K := by
  subst hP; exact acall_enter td_ok Tryd.func3 (by kernel_rfl) (by kernel_rfl) h
theorem e4 {P : Program} (hP : P = Tryd.prog) {args : List AV} {ob : List AO} {K : AV → List AO → Prop} (h : abody P td (Tryd.f4.body.getD .skip) Tryd.f4.results.toList Tryd.f4.ntmps args ob K) : ACall P 4 args ob K := by
  subst hP; exact acall_enter td_ok Tryd.func4 (by kernel_rfl) (by kernel_rfl) h
theorem e5 {P : Program} (hP : P = Tryd.prog) {args : List AV} {ob : List AO} {K : AV → List AO → Prop} (h : abody P td (Tryd.f5.body.getD .skip) Tryd.f5.results.toList Tryd.f5.ntmps args ob K) : ACall P 5 args ob K := by
  subst hP; exact acall_enter td_ok Tryd.func5 (by kernel_rfl) (by kernel_rfl) h
theorem e6 {P : Program} (hP : P = Tryd.prog) {args : List AV} {ob : List AO} {K : AV → List AO → Prop} (h : abody P td (Tryd.f6.body.getD .skip) Tryd.f6.results.toList Tryd.f6.ntmps args ob K) : ACall P 6 args ob K := by
  subst hP; exact acall_enter td_ok Tryd.func6 (by kernel_rfl) (by kernel_rfl) h
theorem e7 {P : Program} (hP : P = Tryd.prog) {args : List AV} {ob : List AO} {K : AV → List AO → Prop} (h : abody P td (Tryd.f7.body.getD .skip) Tryd.f7.results.toList Tryd.f7.ntmps args ob K) : ACall P 7 args ob K := by
  subst hP; exact acall_enter td_ok Tryd.func7 (by kernel_rfl) (by kernel_rfl) h
theorem e8 {P : Program} (hP : P = Tryd.prog) {args : List AV} {ob : List AO} {K : AV → List AO → Prop} (h : abody P td (Tryd.f8.body.getD .skip) Tryd.f8.results.toList Tryd.f8.ntmps args ob K) : ACall P 8 args ob K := by
  subst hP; exact acall_enter td_ok Tryd.func8 (by kernel_rfl) (by kernel_rfl) h
theorem e9 {P : Program} (hP : P = Tryd.prog) {args : List AV} {ob : List AO} {K : AV → List AO → Prop} (h : abody P td (Tryd.f9.body.getD .skip) Tryd.f9.results.toList Tryd.f9.ntmps args ob K) : ACall P 9 args ob K := by
  subst hP; exact acall_enter td_ok Tryd.func9 (by kernel_rfl) (by kernel_rfl) h
theorem e10 {P : Program} (hP : P = Tryd.prog) {args : List AV} {ob : List AO} {K : AV → List AO → Prop} (h : abody P td (Tryd.f10.body.getD .skip) Tryd.f10.results.toList Tryd.f10.ntmps args ob K) : ACall P 10 args ob K := by
  subst hP; exact acall_enter td_ok Tryd.func10 (by kernel_rfl) (by kernel_rfl) h
theorem e11 {P : Program} (hP : P = Tryd.prog) {args : List AV} {ob : List AO} {K : AV → List AO → Prop} (h : abody P td (Tryd.f11.body.getD .skip) Tryd.f11.results.toList Tryd.f11.ntmps args ob K) : ACall P 11 args ob K := by
  subst hP; exact acall_enter td_ok Tryd.func11 (by kernel_rfl) (by kernel_rfl) h
theorem e12 {P : Program} (hP : P = Tryd.prog) {args : List AV} {ob : List AO} {K : AV → List AO → Prop} (h : abody P td (Tryd.f12.body.getD .skip) Tryd.f12.results.toList Tryd.f12.ntmps args ob K) : ACall P 12 args ob K := by
  subst hP; exact acall_enter td_ok Tryd.func12 (by kernel_rfl) (by kernel_rfl) h
theorem e13 {P : Program} (hP : P = Tryd.prog) {args : List AV} {ob : List AO} {K : AV → List AO → Prop} (h : abody P td (Tryd.f13.body.getD .skip) Tryd.f13.results.toList Tryd.f13.ntmps args ob K) : ACall P 13 args ob K := by
  subst hP; exact acall_enter td_ok Tryd.func13 (by kernel_rfl) (by kernel_rfl) h
theorem e14 {P : Program} (hP : P = Tryd.prog) {args : List AV} {ob : List AO} {K : AV → List AO → Prop} (h : abody P td (Tryd.f14.body.getD .skip) Tryd.f14.results.toList Tryd.f14.ntmps args ob K) : ACall P 14 args ob K := by
  subst hP; exact acall_enter td_ok Tryd.func14 (by kernel_rfl) (by kernel_rfl) h
theorem e15 {P : Program} (hP : P = Tryd.prog) {args : List AV} {ob : List AO} {K : AV → List AO → Prop} (h : abody P td (Tryd.f15.body.getD .skip) Tryd.f15.results.toList Tryd.f15.ntmps args ob K) : ACall P 15 args ob K := by
  subst hP; exact acall_enter td_ok Tryd.func15 (by kernel_rfl) (by kernel_rfl) h
theorem e16 {P : Program} (hP : P = Tryd.prog) {args : List AV} {ob : List AO} {K : AV → List AO → Prop} (h : abody P td (Tryd.f16.body.getD .skip) Tryd.f16.results.toList Tryd.f16.ntmps args ob K) : ACall P 16 args ob K := by
  subst hP; exact acall_enter td_ok Tryd.func16 (by kernel_rfl) (by kernel_rfl) h
theorem e17 {P : Program} (hP : P = Tryd.prog) {args : List AV} {ob : List AO} {K : AV → List AO → Prop} (h : abody P td (Tryd.f17.body.getD .skip) Tryd.f17.results.toList Tryd.f17.ntmps args ob K) : ACall P 17 args ob K := by
  subst hP; exact acall_enter td_ok Tryd.func17 (by kernel_rfl) (by kernel_rfl) h
theorem e18 {P : Program} (hP : P = Tryd.prog) {args : List AV} {ob : List AO} {K : AV → List AO → Prop} (h : abody P td (Tryd.f18.body.getD .skip) Tryd.f18.results.toList Tryd.f18.ntmps args ob K) : ACall P 18 args ob K := by
  subst hP; exact acall_enter td_ok Tryd.func18 (by kernel_rfl) (by kernel_rfl) h
theorem e19 {P : Program} (hP : P = Tryd.prog) {args : List AV} {ob : List AO} {K : AV → List AO → Prop} (h : abody P td (Tryd.f19.body.getD .skip) Tryd.f19.results.toList Tryd.f19.ntmps args ob K) : ACall P 19 args ob K := by
  subst hP; exact acall_enter td_ok Tryd.func19 (by kernel_rfl) (by kernel_rfl) h
theorem e20 {P : Program} (hP : P = Tryd.prog) {args : List AV} {ob : List AO} {K : AV → List AO → Prop} (h : abody P td (Tryd.f20.body.getD .skip) Tryd.f20.results.toList Tryd.f20.ntmps args ob K) : ACall P 20 args ob K := by
  subst hP; exact acall_enter td_ok Tryd.func20 (by kernel_rfl) (by kernel_rfl) h
theorem e21 {P : Program} (hP : P = Tryd.prog) {args : List AV} {ob : List AO} {K : AV → List AO → Prop} (h : abody P td (Tryd.f21.body.getD .skip) Tryd.f21.results.toList Tryd.f21.ntmps args ob K) : ACall P 21 args ob K := by
  subst hP; exact acall_enter td_ok Tryd.func21 (by kernel_rfl) (by kernel_rfl) h
theorem e22 {P : Program} (hP : P = Tryd.prog) {args : List AV} {ob : List AO} {K : AV → List AO → Prop} (h : abody P td (Tryd.f22.body.getD .skip) Tryd.f22.results.toList Tryd.f22.ntmps args ob K) : ACall P 22 args ob K := by
  subst hP; exact acall_enter td_ok Tryd.func22 (by kernel_rfl) (by kernel_rfl) h
theorem e23 {P : Program} (hP : P = Tryd.prog) {args : List AV} {ob : List AO} {K : AV → List AO → Prop} (h : abody P td (Tryd.f23.body.getD .skip) Tryd.f23.results.toList Tryd.f23.ntmps args ob K) : ACall P 23 args ob K := by
  subst hP; exact acall_enter td_ok Tryd.func23 (by kernel_rfl) (by kernel_rfl) h
theorem e24 {P : Program} (hP : P = Tryd.prog) {args : List AV} {ob : List AO} {K : AV → List AO → Prop} (h : abody P td (Tryd.f24.body.getD .skip) Tryd.f24.results.toList Tryd.f24.ntmps args ob K) : ACall P 24 args ob K := by
  subst hP; exact acall_enter td_ok Tryd.func24 (by kernel_rfl) (by kernel_rfl) h
theorem e25 {P : Program} (hP : P = Tryd.prog) {args : List AV} {ob : List AO} {K : AV → List AO → Prop} (h : abody P td (Tryd.f25.body.getD .skip) Tryd.f25.results.toList Tryd.f25.ntmps args ob K) : ACall P 25 args ob K := by
  subst hP; exact acall_enter td_ok Tryd.func25 (by kernel_rfl) (by kernel_rfl) h
theorem e26 {P : Program} (hP : P = Tryd.prog) {args : List AV} {ob : List AO} {K : AV → List AO → Prop} (h : abody P td (Tryd.f26.body.getD .skip) Tryd.f26.results.toList Tryd.f26.ntmps args ob K) : ACall P 26 args ob K := by
  subst hP; exact acall_enter td_ok Tryd.func26 (by kernel_rfl) (by kernel_rfl) h
theorem e27 {P : Program} (hP : P = Tryd.prog) {args : List AV} {ob : List AO} {K : AV → List AO → Prop} (h : abody P td (Tryd.f27.body.getD .skip) Tryd.f27.results.toList Tryd.f27.ntmps args ob K) : ACall P 27 args ob K := by
  subst hP; exact acall_enter td_ok Tryd.func27 (by kernel_rfl) (by kernel_rfl) h
theorem e28 {P : Program} (hP : P = Tryd.prog) {args : List AV} {ob : List AO} {K : AV → List AO → Prop} (h : abody P td (Tryd.f28.body.getD .skip) Tryd.f28.results.toList Tryd.f28.ntmps args ob K) : ACall P 28 args ob K := by
  subst hP; exact acall_enter td_ok Tryd.func28 (by kernel_rfl) (by kernel_rfl) h
theorem e29 {P : Program} (hP : P = Tryd.prog) {args : List AV} {ob : List AO} {K : AV → List AO → Prop} (h : abody P td (Tryd.f29.body.getD .skip) Tryd.f29.results.toList Tryd.f29.ntmps args ob K) : ACall P 29 args ob K := by
  subst hP; exact acall_enter td_ok Tryd.func29 (by kernel_rfl) (by kernel_rfl) h
theorem e30 {P : Program} (hP : P = Tryd.prog) {args : List AV} {ob : List AO} {K : AV → List AO → Prop} (h : abody P td (Tryd.f30.body.getD .skip) Tryd.f30.results.toList Tryd.f30.ntmps args ob K) : ACall P 30 args ob K := by
  subst hP; exact acall_enter td_ok Tryd.func30 (by kernel_rfl) (by kernel_rfl) h
theorem e31 {P : Program} (hP : P = Tryd.prog) {args : List AV} {ob : List AO} {K : AV → List AO → Prop} (h : abody P td (Tryd.f31.body.getD .skip) Tryd.f31.results.toList Tryd.f31.ntmps args ob K) : ACall P 31 args ob K := by
  subst hP; exact acall_enter td_ok Tryd.func31 (by kernel_rfl) (by kernel_rfl) h
theorem e32 {P : Program} (hP : P = Tryd.prog) {args : List AV} {ob : List AO} {K : AV → List AO → Prop} (h : abody P td (Tryd.f32.body.getD .skip) Tryd.f32.results.toList Tryd.f32.ntmps args ob K) : ACall P 32 args ob K := by
  subst hP; exact acall_enter td_ok Tryd.func32 (by kernel_rfl) (by kernel_rfl) h
theorem e33 {P : Program} (hP : P = Tryd.prog) {args : List AV} {ob : List AO} {K : AV → List AO → Prop} (h : abody P td (Tryd.f33.body.getD .skip) Tryd.f33.results.toList Tryd.f33.ntmps args ob K) : ACall P 33 args ob K := by
  subst hP; exact acall_enter td_ok Tryd.func33 (by kernel_rfl) (by kernel_rfl) h
theorem e34 {P : Program} (hP : P = Tryd.prog) {args : List AV} {ob : List AO} {K : AV → List AO → Prop} (h : abody P td (Tryd.f34.body.getD .skip) Tryd.f34.results.toList Tryd.f34.ntmps args ob K) : ACall P 34 args ob K := by
  subst hP; exact acall_enter td_ok Tryd.func34 (by kernel_rfl) (by kernel_rfl) h
theorem e35 {P : Program} (hP : P = Tryd.prog) {args : List AV} {ob : List AO} {K : AV → List AO → Prop} (h : abody P td (Tryd.f35.body.getD .skip) Tryd.f35.results.toList Tryd.f35.ntmps args ob K) : ACall P 35 args ob K := by
  subst hP; exact acall_enter td_ok Tryd.func35 (by kernel_rfl) (by kernel_rfl) h
theorem e36 {P : Program} (hP : P = Tryd.prog) {args : List AV} {ob : List AO} {K : AV → List AO → Prop} (h : abody P td (Tryd.f36.body.getD .skip) Tryd.f36.results.toList Tryd.f36.ntmps args ob K) : ACall P 36 args ob K := by
  subst hP; exact acall_enter td_ok Tryd.func36 (by kernel_rfl) (by kernel_rfl) h
theorem e37 {P : Program} (hP : P = Tryd.prog) {args : List AV} {ob : List AO} {K : AV → List AO → Prop} (h : abody P td (Tryd.f37.body.getD .skip) Tryd.f37.results.toList Tryd.f37.ntmps args ob K) : ACall P 37 args ob K := by
  subst hP; exact acall_enter td_ok Tryd.func37 (by kernel_rfl) (by kernel_rfl) h
theorem e38 {P : Program} (hP : P = Tryd.prog) {args : List AV} {ob : List AO} {K : AV → List AO → Prop} (h : abody P td (Tryd.f38.body.getD .skip) Tryd.f38.results.toList Tryd.f38.ntmps args ob K) : ACall P 38 args ob K := by
  subst hP; exact acall_enter td_ok Tryd.func38 (by kernel_rfl) (by kernel_rfl) h
theorem e39 {P : Program} (hP : P = Tryd.prog) {args : List AV} {ob : List AO} {K : AV → List AO → Prop} (h : abody P td (Tryd.f39.body.getD .skip) Tryd.f39.results.toList Tryd.f39.ntmps args ob K) : ACall P 39 args ob K := by
  subst hP; exact acall_enter td_ok Tryd.func39 (by kernel_rfl) (by kernel_rfl) h
theorem e40 {P : Program} (hP : P = Tryd.prog) {args : List AV} {ob : List AO} {K : AV → List AO → Prop} (h : abody P td (Tryd.f40.body.getD .skip) Tryd.f40.results.toList Tryd.f40.ntmps args ob K) : ACall P 40 args ob K := by
  subst hP; exact acall_enter td_ok Tryd.func40 (by kernel_rfl) (by kernel_rfl) h
theorem e41 {P : Program} (hP : P = Tryd.prog) {args : List AV} {ob : List AO} {K : AV → List AO → Prop} (h : abody P td (Tryd.f41.body.getD .skip) Tryd.f41.results.toList Tryd.f41.ntmps args ob K) : ACall P 41 args ob K := by
  subst hP; exact acall_enter td_ok Tryd.func41 (by kernel_rfl) (by kernel_rfl) h
theorem e42 {P : Program} (hP : P = Tryd.prog) {args : List AV} {ob : List AO} {K : AV → List AO → Prop} (h : abody P td (Tryd.f42.body.getD .skip) Tryd.f42.results.toList Tryd.f42.ntmps args ob K) : ACall P 42 args ob K := by
  subst hP; exact acall_enter td_ok Tryd.func42 (by kernel_rfl) (by kernel_rfl) h
theorem e43 {P : Program} (hP : P = Tryd.prog) {args : List AV} {ob : List AO} {K : AV → List AO → Prop} (h : abody P td (Tryd.f43.body.getD .skip) Tryd.f43.results.toList Tryd.f43.ntmps args ob K) : ACall P 43 args ob K := by
  subst hP; exact acall_enter td_ok Tryd.func43 (by kernel_rfl) (by kernel_rfl) h
theorem e44 {P : Program} (hP : P = Tryd.prog) {args : List AV} {ob : List AO} {K : AV → List AO → Prop} (h : abody P td (Tryd.f44.body.getD .skip) Tryd.f44.results.toList Tryd.f44.ntmps args ob K) : ACall P 44 args ob K := by
  subst hP; exact acall_enter td_ok Tryd.func44 (by kernel_rfl) (by kernel_rfl) h
theorem e45 {P : Program} (hP : P = Tryd.prog) {args : List AV} {ob : List AO} {K : AV → List AO → Prop} (h : abody P td (Tryd.f45.body.getD .skip) Tryd.f45.results.toList Tryd.f45.ntmps args ob K) : ACall P 45 args ob K := by
  subst hP; exact acall_enter td_ok Tryd.func45 (by kernel_rfl) (by kernel_rfl) h
theorem e46 {P : Program} (hP : P = Tryd.prog) {args : List AV} {ob : List AO} {K : AV → List AO → Prop} (h : abody P td (Tryd.f46.body.getD .skip) Tryd.f46.results.toList Tryd.f46.ntmps args ob K) : ACall P 46 args ob K := by
  subst hP; exact acall_enter td_ok Tryd.func46 (by kernel_rfl) (by kernel_rfl) h
theorem e47 {P : Program} (hP : P = Tryd.prog) {args : List AV} {ob : List AO} {K : AV → List AO → Prop} (h : abody P td (Tryd.f47.body.getD .skip) Tryd.f47.results.toList Tryd.f47.ntmps args ob K) : ACall P 47 args ob K := by
  subst hP; exact acall_enter td_ok Tryd.func47 (by kernel_rfl) (by kernel_rfl) h
theorem e48 {P : Program} (hP : P = Tryd.prog) {args : List AV} {ob : List AO} {K : AV → List AO → Prop} (h : abody P td (Tryd.f48.body.getD .skip) Tryd.f48.results.toList Tryd.f48.ntmps args ob K) : ACall P 48 args ob K := by
  subst hP; exact acall_enter td_ok Tryd.func48 (by kernel_rfl) (by kernel_rfl) h
theorem e49 {P : Program} (hP : P = Tryd.prog) {args : List AV} {ob : List AO} {K : AV → List AO → Prop} (h : abody P td (Tryd.f49.body.getD .skip) Tryd.f49.results.toList Tryd.f49.ntmps args ob K) : ACall P 49 args ob K := by
  subst hP; exact acall_enter td_ok Tryd.func49 (by kernel_rfl) (by kernel_rfl) h
theorem e50 {P : Program} (hP : P = Tryd.prog) {args : List AV} {ob : List AO} {K : AV → List AO → Prop} (h : abody P td (Tryd.f50.body.getD .skip) Tryd.f50.results.toList Tryd.f50.ntmps args ob K) : ACall P 50 args ob K := by
  subst hP; exact acall_enter td_ok Tryd.func50 (by kernel_rfl) (by kernel_rfl) h
theorem e51 {P : Program} (hP : P = Tryd.prog) {args : List AV} {ob : List AO} {K : AV → List AO → Prop} (h : abody P td (Tryd.f51.body.getD .skip) Tryd.f51.results.toList Tryd.f51.ntmps args ob K) : ACall P 51 args ob K := by
  subst hP; exact acall_enter td_ok Tryd.func51 (by kernel_rfl) (by kernel_rfl) h
theorem e52 {P : Program} (hP : P = Tryd.prog) {args : List AV} {ob : List AO} {K : AV → List AO → Prop} (h : abody P td (Tryd.f52.body.getD .skip) Tryd.f52.results.toList Tryd.f52.ntmps args ob K) : ACall P 52 args ob K := by
  subst hP; exact acall_enter td_ok Tryd.func52 (by kernel_rfl) (by kernel_rfl) h
theorem e53 {P : Program} (hP : P = Tryd.prog) {args : List AV} {ob : List AO} {K : AV → List AO → Prop} (h : abody P td (Tryd.f53.body.getD .skip) Tryd.f53.results.toList Tryd.f53.ntmps args ob K) : ACall P 53 args ob K := by
  subst hP; exact acall_enter td_ok Tryd.func53 (by kernel_rfl) (by kernel_rfl) h
theorem e54 {P : Program} (hP : P = Tryd.prog) {args : List AV} {ob : List AO} {K : AV → List AO → Prop} (h : abody P td (Tryd.f54.body.getD .skip) Tryd.f54.results.toList Tryd.f54.ntmps args ob K) : ACall P 54 args ob K := by
  subst hP; exact acall_enter td_ok Tryd.func54 (by kernel_rfl) (by kernel_rfl) h
theorem e55 {P : Program} (hP : P = Tryd.prog) {args : List AV} {ob : List AO} {K : AV → List AO → Prop} (h : abody P td (Tryd.f55.body.getD .skip) Tryd.f55.results.toList Tryd.f55.ntmps args ob K) : ACall P 55 args ob K := by
  subst hP; exact acall_enter td_ok Tryd.func55 (by kernel_rfl) (by kernel_rfl) h
theorem e57 {P : Program} (hP : P = Tryd.prog) {args : List AV} {ob : List AO} {K : AV → List AO → Prop} (h : abody P td (Tryd.f57.body.getD .skip) Tryd.f57.results.toList Tryd.f57.ntmps args ob K) : ACall P 57 args ob K := by
  subst hP; exact acall_enter td_ok Tryd.func57 (by kernel_rfl) (by kernel_rfl) h
theorem e58 {P : Program} (hP : P = Tryd.prog) {args : List AV} {ob : List AO} {K : AV → List AO → Prop} (h : abody P td (Tryd.f58.body.getD .skip) Tryd.f58.results.toList Tryd.f58.ntmps args ob K) : ACall P 58 args ob K := by
  subst hP; exact acall_enter td_ok Tryd.func58 (by kernel_rfl) (by kernel_rfl) h
theorem e59 {P : Program} (hP : P = Tryd.prog) {args : List AV} {ob : List AO} {K : AV → List AO → Prop} (h : abody P td (Tryd.f59.body.getD .skip) Tryd.f59.results.toList Tryd.f59.ntmps args ob K) : ACall P 59 args ob K := by
  subst hP; exact acall_enter td_ok Tryd.func59 (by kernel_rfl) (by kernel_rfl) h
theorem e60 {P : Program} (hP : P = Tryd.prog) {args : List AV} {ob : List AO} {K : AV → List AO → Prop} (h : abody P td (Tryd.f60.body.getD .skip) Tryd.f60.results.toList Tryd.f60.ntmps args ob K) : ACall P 60 args ob K := by
  subst hP; exact acall_enter td_ok Tryd.func60 (by kernel_rfl) (by kernel_rfl) h
theorem e61 {P : Program} (hP : P = Tryd.prog) {args : List AV} {ob : List AO} {K : AV → List AO → Prop} (h : abody P td (Tryd.f61.body.getD .skip) Tryd.f61.results.toList Tryd.f61.ntmps args ob K) : ACall P 61 args ob K := by
  subst hP; exact acall_enter td_ok Tryd.func61 (by kernel_rfl) (by kernel_rfl) h
theorem e62 {P : Program} (hP : P = Tryd.prog) {args : List AV} {ob : List AO} {K : AV → List AO → Prop} (h : abody P td (Tryd.f62.body.getD .skip) Tryd.f62.results.toList Tryd.f62.ntmps args ob K) : ACall P 62 args ob K := by
  subst hP; exact acall_enter td_ok Tryd.func62 (by kernel_rfl) (by kernel_rfl) h
theorem e63 {P : Program} (hP : P = Tryd.prog) {args : List AV} {ob : List AO} {K : AV → List AO → Prop} (h : abody P td (Tryd.f63.body.getD .skip) Tryd.f63.results.toList Tryd.f63.ntmps args ob K) : ACall P 63 args ob K := by
  subst hP; exact acall_enter td_ok Tryd.func63 (by kernel_rfl) (by kernel_rfl) h
theorem e64 {P : Program} (hP : P = Tryd.prog) {args : List AV} {ob : List AO} {K : AV → List AO → Prop} (h : abody P td (Tryd.f64.body.getD .skip) Tryd.f64.results.toList Tryd.f64.ntmps args ob K) : ACall P 64 args ob K := by
  subst hP; exact acall_enter td_ok Tryd.func64 (by kernel_rfl) (by kernel_rfl) h
theorem e65 {P : Program} (hP : P = Tryd.prog) {args : List AV} {ob : List AO} {K : AV → List AO → Prop} (h : abody P td (Tryd.f65.body.getD .skip) Tryd.f65.results.toList Tryd.f65.ntmps args ob K) : ACall P 65 args ob K := by
  subst hP; exact acall_enter td_ok Tryd.func65 (by kernel_rfl) (by kernel_rfl) h
theorem e66 {P : Program} (hP : P = Tryd.prog) {args : List AV} {ob : List AO} {K : AV → List AO → Prop} (h : abody P td (Tryd.f66.body.getD .skip) Tryd.f66.results.toList Tryd.f66.ntmps args ob K) : ACall P 66 args ob K := by
  subst hP; exact acall_enter td_ok Tryd.func66 (by kernel_rfl) (by kernel_rfl) h
theorem e67 {P : Program} (hP : P = Tryd.prog) {args : List AV} {ob : List AO} {K : AV → List AO → Prop} (h : abody P td (Tryd.f67.body.getD .skip) Tryd.f67.results.toList Tryd.f67.ntmps args ob K) : ACall P 67 args ob K := by
  subst hP; exact acall_enter td_ok Tryd.func67 (by kernel_rfl) (by kernel_rfl) h
theorem e68 {P : Program} (hP : P = Tryd.prog) {args : List AV} {ob : List AO} {K : AV → List AO → Prop} (h : abody P td (Tryd.f68.body.getD .skip) Tryd.f68.results.toList Tryd.f68.ntmps args ob K) : ACall P 68 args ob K := by
  subst hP; exact acall_enter td_ok Tryd.func68 (by kernel_rfl) (by kernel_rfl) h
theorem e69 {P : Program} (hP : P = Tryd.prog) {args : List AV} {ob : List AO} {K : AV → List AO → Prop} (h : abody P td (Tryd.f69.body.getD .skip) Tryd.f69.results.toList Tryd.f69.ntmps args ob K) : ACall P 69 args ob K := by
  subst hP; exact acall_enter td_ok Tryd.func69 (by kernel_rfl) (by kernel_rfl) h
theorem e70 {P : Program} (hP : P = Tryd.prog) {args : List AV} {ob : List AO} {K : AV → List AO → Prop} (h : abody P td (Tryd.f70.body.getD .skip) Tryd.f70.results.toList Tryd.f70.ntmps args ob K) : ACall P 70 args ob K := by
  subst hP; exact acall_enter td_ok Tryd.func70 (by kernel_rfl) (by kernel_rfl) h
theorem e71 {P : Program} (hP : P = Tryd.prog) {args : List AV} {ob : List AO} {K : AV → List AO → Prop} (h : abody P td (Tryd.f71.body.getD .skip) Tryd.f71.results.toList Tryd.f71.ntmps args ob K) : ACall P 71 args ob K := by
  subst hP; exact acall_enter td_ok Tryd.func71 (by kernel_rfl) (by kernel_rfl) h
theorem e72 {P : Program} (hP : P = Tryd.prog) {args : List AV} {ob : List AO} {K : AV → List AO → Prop} (h : abody P td (Tryd.f72.body.getD .skip) Tryd.f72.results.toList Tryd.f72.ntmps args ob K) : ACall P 72 args ob K := by
  subst hP; exact acall_enter td_ok Tryd.func72 (by kernel_rfl) (by kernel_rfl) h
theorem e73 {P : Program} (hP : P = Tryd.prog) {args : List AV} {ob : List AO} {K : AV → List AO → Prop} (h : abody P td (Tryd.f73.body.getD .skip) Tryd.f73.results.toList Tryd.f73.ntmps args ob K) : ACall P 73 args ob K := by
  subst hP; exact acall_enter td_ok Tryd.func73 (by kernel_rfl) (by kernel_rfl) h
theorem e74 {P : Program} (hP : P = Tryd.prog) {args : List AV} {ob : List AO} {K : AV → List AO → Prop} (h : abody P td (Tryd.f74.body.getD .skip) Tryd.f74.results.toList Tryd.f74.ntmps args ob K) : ACall P 74 args ob K := by
  subst hP; exact acall_enter td_ok Tryd.func74 (by kernel_rfl) (by kernel_rfl) h
theorem e75 {P : Program} (hP : P = Tryd.prog) {args : List AV} {ob : List AO} {K : AV → List AO → Prop} (h : abody P td (Tryd.f75.body.getD .skip) Tryd.f75.results.toList Tryd.f75.ntmps args ob K) : ACall P 75 args ob K := by
  subst hP; exact acall_enter td_ok Tryd.func75 (by kernel_rfl) (by kernel_rfl) h
theorem e76 {P : Program} (hP : P = Tryd.prog) {args : List AV} {ob : List AO} {K : AV → List AO → Prop} (h : abody P td (Tryd.f76.body.getD .skip) Tryd.f76.results.toList Tryd.f76.ntmps args ob K) : ACall P 76 args ob K := by
  subst hP; exact acall_enter td_ok Tryd.func76 (by kernel_rfl) (by kernel_rfl) h
theorem e77 {P : Program} (hP : P = Tryd.prog) {args : List AV} {ob : List AO} {K : AV → List AO → Prop} (h : abody P td (Tryd.f77.body.getD .skip) Tryd.f77.results.toList Tryd.f77.ntmps args ob K) : ACall P 77 args ob K := by
  subst hP; exact acall_enter td_ok Tryd.func77 (by kernel_rfl) (by kernel_rfl) h
theorem e78 {P : Program} (hP : P = Tryd.prog) {args : List AV} {ob : List AO} {K : AV → List AO → Prop} (h : abody P td (Tryd.f78.body.getD .skip) Tryd.f78.results.toList Tryd.f78.ntmps args ob K) : ACall P 78 args ob K := by
  subst hP; exact acall_enter td_ok Tryd.func78 (by kernel_rfl) (by kernel_rfl) h
theorem e79 {P : Program} (hP : P = Tryd.prog) {args : List AV} {ob : List AO} {K : AV → List AO → Prop} (h : abody P td (Tryd.f79.body.getD .skip) Tryd.f79.results.toList Tryd.f79.ntmps args ob K) : ACall P 79 args ob K := by
  subst hP; exact acall_enter td_ok Tryd.func79 (by kernel_rfl) (by kernel_rfl) h
theorem e80 {P : Program} (hP : P = Tryd.prog) {args : List AV} {ob : List AO} {K : AV → List AO → Prop} (h : abody P td (Tryd.f80.body.getD .skip) Tryd.f80.results.toList Tryd.f80.ntmps args ob K) : ACall P 80 args ob K := by
  subst hP; exact acall_enter td_ok Tryd.func80 (by kernel_rfl) (by kernel_rfl) h
theorem e81 {P : Program} (hP : P = Tryd.prog) {args : List AV} {ob : List AO} {K : AV → List AO → Prop} (h : abody P td (Tryd.f81.body.getD .skip) Tryd.f81.results.toList Tryd.f81.ntmps args ob K) : ACall P 81 args ob K := by
  subst hP; exact acall_enter td_ok Tryd.func81 (by kernel_rfl) (by kernel_rfl) h
theorem e82 {P : Program} (hP : P = Tryd.prog) {args : List AV} {ob : List AO} {K : AV → List AO → Prop} (h : abody P td (Tryd.f82.body.getD .skip) Tryd.f82.results.toList Tryd.f82.ntmps args ob K) : ACall P 82 args ob K := by
  subst hP; exact acall_enter td_ok Tryd.func82 (by kernel_rfl) (by kernel_rfl) h
theorem e83 {P : Program} (hP : P = Tryd.prog) {args : List AV} {ob : List AO} {K : AV → List AO → Prop} (h : abody P td (Tryd.f83.body.getD .skip) Tryd.f83.results.toList Tryd.f83.ntmps args ob K) : ACall P 83 args ob K := by
  subst hP; exact acall_enter td_ok Tryd.func83 (by kernel_rfl) (by kernel_rfl) h
theorem e84 {P : Program} (hP : P = Tryd.prog) {args : List AV} {ob : List AO} {K : AV → List AO → Prop} (h : abody P td (Tryd.f84.body.getD .skip) Tryd.f84.results.toList Tryd.f84.ntmps args ob K) : ACall P 84 args ob K := by
  subst hP; exact acall_enter td_ok Tryd.func84 (by kernel_rfl) (by kernel_rfl) h
theorem e85 {P : Program} (hP : P = Tryd.prog) {args : List AV} {ob : List AO} {K : AV → List AO → Prop} (h : abody P td (Tryd.f85.body.getD .skip) Tryd.f85.results.toList Tryd.f85.ntmps args ob K) : ACall P 85 args ob K := by
  subst hP; exact acall_enter td_ok Tryd.func85 (by kernel_rfl) (by kernel_rfl) h
theorem e86 {P : Program} (hP : P = Tryd.prog) {args : List AV} {ob : List AO} {K : AV → List AO → Prop} (h : abody P td (Tryd.f86.body.getD .skip) Tryd.f86.results.toList Tryd.f86.ntmps args ob K) : ACall P 86 args ob K := by
  subst hP; exact acall_enter td_ok Tryd.func86 (by kernel_rfl) (by kernel_rfl) h
theorem e88 {P : Program} (hP : P = Tryd.prog) {args : List AV} {ob : List AO} {K : AV → List AO → Prop} (h : abody P td (Tryd.f88.body.getD .skip) Tryd.f88.results.toList Tryd.f88.ntmps args ob K) : ACall P 88 args ob K := by
  subst hP; exact acall_enter td_ok Tryd.func88 (by kernel_rfl) (by kernel_rfl) h
theorem e89 {P : Program} (hP : P = Tryd.prog) {args : List AV} {ob : List AO} {K : AV → List AO → Prop} (h : abody P td (Tryd.f89.body.getD .skip) Tryd.f89.results.toList Tryd.f89.ntmps args ob K) : ACall P 89 args ob K := by
  subst hP; exact acall_enter td_ok Tryd.func89 (by kernel_rfl) (by kernel_rfl) h
theorem e90 {P : Program} (hP : P = Tryd.prog) {args : List AV} {ob : List AO} {K : AV → List AO → Prop} (h : abody P td (Tryd.f90.body.getD .skip) Tryd.f90.results.toList Tryd.f90.ntmps args ob K) : ACall P 90 args ob K := by
  subst hP; exact acall_enter td_ok Tryd.func90 (by kernel_rfl) (by kernel_rfl) h
theorem e91 {P : Program} (hP : P = Tryd.prog) {args : List AV} {ob : List AO} {K : AV → List AO → Prop} (h : abody P td (Tryd.f91.body.getD .skip) Tryd.f91.results.toList Tryd.f91.ntmps args ob K) : ACall P 91 args ob K := by
  subst hP; exact acall_enter td_ok Tryd.func91 (by kernel_rfl) (by kernel_rfl) h
theorem e92 {P : Program} (hP : P = Tryd.prog) {args : List AV} {ob : List AO} {K : AV → List AO → Prop} (h : abody P td (Tryd.f92.body.getD .skip) Tryd.f92.results.toList Tryd.f92.ntmps args ob K) : ACall P 92 args ob K := by
  subst hP; exact acall_enter td_ok Tryd.func92 (by kernel_rfl) (by kernel_rfl) h
theorem e93 {P : Program} (hP : P = Tryd.prog) {args : List AV} {ob : List AO} {K : AV → List AO → Prop} (h : abody P td (Tryd.f93.body.getD .skip) Tryd.f93.results.toList Tryd.f93.ntmps args ob K) : ACall P 93 args ob K := by
  subst hP; exact acall_enter td_ok Tryd.func93 (by kernel_rfl) (by kernel_rfl) h
theorem e94 {P : Program} (hP : P = Tryd.prog) {args : List AV} {ob : List AO} {K : AV → List AO → Prop} (h : abody P td (Tryd.f94.body.getD .skip) Tryd.f94.results.toList Tryd.f94.ntmps args ob K) : ACall P 94 args ob K := by
  subst hP; exact acall_enter td_ok Tryd.func94 (by kernel_rfl) (by kernel_rfl) h
theorem e96 {P : Program} (hP : P = Tryd.prog) {args : List AV} {ob : List AO} {K : AV → List AO → Prop} (h : abody P td (Tryd.f96.body.getD .skip) Tryd.f96.results.toList Tryd.f96.ntmps args ob K) : ACall P 96 args ob K := by
  subst hP; exact acall_enter td_ok Tryd.func96 (by kernel_rfl) (by kernel_rfl) h
theorem e97 {P : Program} (hP : P = Tryd.prog) {args : List AV} {ob : List AO} {K : AV → List AO → Prop} (h : abody P td (Tryd.f97.body.getD .skip) Tryd.f97.results.toList Tryd.f97.ntmps args ob K) : ACall P 97 args ob K := by
  subst hP; exact acall_enter td_ok Tryd.func97 (by kernel_rfl) (by kernel_rfl) h
end Go.Proofs.YtchbobndobpocaaDoor
