/- The functions that the law reaches, by name, and the law's call from its plain statement. No condition. -/
import Derived.Test.YtjebhkpabdogcabKC
import Derived.Test.YtjebhkpabdogcabITab
/-! IRa -/
set_option linter.unusedVariables false
set_option linter.unusedSimpArgs false
set_option maxRecDepth 100000
set_option maxHeartbeats 4000000
namespace Go.I
open Go
def M : FuncId → List Md
  | 9 => [.own, .val]
  | 10 => [.own, .val]
  | 16 => [.ptr 2]
  | 18 => [.ptr 2, .val]
  | 24 => [.own, .val]
  | 25 => [.own, .val]
  | 36 => [.ptr 2]
  | 46 => [.own, .val]
  | 47 => [.own, .val]
  | 60 => [.ptr 2, .val]
  | 61 => [.ptr 2, .val]
  | 62 => [.ptr 2]
  | 66 => [.ptr 2]
  | 76 => [.ptr 4]
  | 77 => [.ptr 4]
  | 78 => [.ptr 1]
  | 79 => [.ptr 1]
  | 80 => [.ptr 11]
  | 83 => [.ptr 2]
  | _ => []
def kl3 : KL := ⟨fun _ => [], fun _ => .no, fun _ => []⟩
noncomputable def fi3 : Fi tab := ⟨Go.Proofs.Try.f3, Go.Proofs.Try.f3.body.getD .skip, kl3, fun _ _ => False⟩
def kl5 : KL := ⟨fun n => match n with
  | 0 => [2, 5, 6, 7, 8, 9, 10, 11, 12, 13, 14, 15, 16, 17, 18, 19, 20]
  | _ => [], fun _ => .no, fun _ => []⟩
noncomputable def fi5 : Fi tab := ⟨Go.Proofs.Try.f5, Go.Proofs.Try.f5.body.getD .skip, kl5, fun _ _ => False⟩
def kl4 : KL := ⟨fun _ => [], fun _ => .no, fun _ => []⟩
noncomputable def fi4 : Fi tab := ⟨Go.Proofs.Try.f4, Go.Proofs.Try.f4.body.getD .skip, kl4, fun _ _ => False⟩
def kl12 : KL := ⟨fun n => match n with
  | 0 => [2, 3, 7, 8, 9, 10, 11, 12, 13, 14, 15, 16, 17, 18, 19, 20, 21, 22, 23]
  | 4 => [7, 8, 9, 10, 11, 12, 13, 14, 15, 16, 17, 18, 19, 20, 21, 24, 25, 26, 27, 28, 29, 30, 31, 32, 33, 34, 35, 36, 37, 38, 39, 40, 41, 42, 43, 44, 45]
  | _ => [], fun _ => .no, fun _ => []⟩
noncomputable def fi12 : Fi tab := ⟨Go.Proofs.Try.f12, Go.Proofs.Try.f12.body.getD .skip, kl12, fun _ _ => False⟩
def kl28 : KL := ⟨fun n => match n with
  | 0 => [2, 4, 5, 6, 8, 9, 10, 11, 12, 13, 14, 15, 16, 17, 18]
  | _ => [], fun _ => .no, fun _ => []⟩
noncomputable def fi28 : Fi tab := ⟨Go.Proofs.Try.f28, Go.Proofs.Try.f28.body.getD .skip, kl28, fun _ _ => False⟩
def kl13 : KL := ⟨fun n => match n with
  | 0 => [3, 6, 7, 11, 12, 13, 14, 15, 16, 17, 18, 19, 20, 21, 22, 24, 25, 26, 27, 28, 29, 30]
  | 4 => [5, 9, 10, 13, 14, 15, 31, 32, 33, 34, 35, 36, 37, 38, 39, 40, 41, 42, 43, 45, 46, 47, 48, 49, 50, 51, 52, 53, 54, 55, 56, 57, 58, 59, 60, 61, 62, 63, 64, 65, 66, 67, 68, 69, 70, 71, 72, 73, 74, 75, 76, 77, 78, 79, 80, 81, 82, 83, 84, 85]
  | _ => [], fun n => match n with
  | 18 => .op 1 (.op 3 (.op 5 (.op 7 (.op 9 (.op 11 (.op 13 (.op 15 (.op 17 (.op 18 (.op 20 (.op 23 (.nil))))))))))))
  | _ => .no, fun _ => []⟩
noncomputable def fi13 : Fi tab := ⟨Go.Proofs.Try.f13, Go.Proofs.Try.f13.body.getD .skip, kl13, fun _ _ => False⟩
def kl29 : KL := ⟨fun _ => [], fun n => match n with
  | 3 => .op 1 (.op 3 (.op 5 (.op 7 (.op 9 (.op 11 (.op 13 (.op 15 (.op 17 (.op 19 (.op 21 (.op 23 (.op 25 (.op 27 (.op 29 (.op 31 (.op 33 (.op 35 (.op 37 (.op 39 (.op 41 (.op 43 (.op 45 (.op 47 (.nil))))))))))))))))))))))))
  | _ => .no, fun _ => []⟩
noncomputable def fi29 : Fi tab := ⟨Go.Proofs.Try.f29, Go.Proofs.Try.f29.body.getD .skip, kl29, fun _ _ => False⟩
def kl30 : KL := ⟨fun n => match n with
  | 0 => [0, 2, 4, 5, 6, 7, 8, 9, 10, 11, 12, 13, 14, 15, 16, 17, 18, 19, 20, 21, 22, 23, 24, 25, 26, 27, 28, 29, 30, 31, 32, 33, 34, 35, 36, 37, 38, 39, 40, 41, 42, 43, 44, 45]
  | _ => [], fun _ => .no, fun _ => []⟩
noncomputable def fi30 : Fi tab := ⟨Go.Proofs.Try.f30, Go.Proofs.Try.f30.body.getD .skip, kl30, fun _ _ => False⟩
def kl32 : KL := ⟨fun _ => [], fun _ => .no, fun _ => []⟩
noncomputable def fi32 : Fi tab := ⟨Go.Proofs.Try.f32, Go.Proofs.Try.f32.body.getD .skip, kl32, fun _ _ => False⟩
def kl51 : KL := ⟨fun _ => [], fun _ => .no, fun _ => []⟩
noncomputable def fi51 : Fi tab := ⟨Go.Proofs.Try.f51, Go.Proofs.Try.f51.body.getD .skip, kl51, fun _ _ => False⟩
def kl15 : KL := ⟨fun _ => [], fun _ => .no, fun _ => []⟩
noncomputable def fi15 : Fi tab := ⟨Go.Proofs.Try.f15, Go.Proofs.Try.f15.body.getD .skip, kl15, fun _ _ => False⟩
def kl33 : KL := ⟨fun _ => [], fun _ => .no, fun _ => []⟩
noncomputable def fi33 : Fi tab := ⟨Go.Proofs.Try.f33, Go.Proofs.Try.f33.body.getD .skip, kl33, fun _ _ => False⟩
def kl34 : KL := ⟨fun n => match n with
  | 0 => [2, 5, 6, 7, 8, 9, 11, 12, 13, 14, 15, 16, 17, 18, 19, 20, 21, 22, 23, 24, 25, 26, 27, 28, 29, 30, 31, 32, 33, 35, 36, 37, 38, 39, 40, 41, 42, 43, 44, 45, 46, 47, 48, 49, 50, 51, 52, 53, 54, 55, 56, 57, 58, 59, 60, 61, 1000005]
  | _ => [], fun _ => .no, fun _ => []⟩
noncomputable def fi34 : Fi tab := ⟨Go.Proofs.Try.f34, Go.Proofs.Try.f34.body.getD .skip, kl34, fun _ _ => False⟩
def kl31 : KL := ⟨fun _ => [], fun _ => .no, fun _ => []⟩
noncomputable def fi31 : Fi tab := ⟨Go.Proofs.Try.f31, Go.Proofs.Try.f31.body.getD .skip, kl31, fun _ _ => False⟩
def kl14 : KL := ⟨fun n => match n with
  | 0 => [2, 3, 5, 6, 7, 8, 9, 10, 11, 12, 13, 14, 15, 16, 17, 19, 20, 21, 22, 23, 34, 35, 36, 37, 38, 39, 40, 41, 42, 44, 45, 46, 47, 48, 49, 50, 51, 52, 53, 54, 55, 56, 57, 58, 59, 60, 62, 63, 64, 65, 66, 67, 68, 69, 70, 71, 72, 73, 74, 75, 76, 77, 78, 79, 80, 81, 83, 84, 85, 86, 1000007]
  | _ => [], fun _ => .no, fun _ => []⟩
noncomputable def fi14 : Fi tab := ⟨Go.Proofs.Try.f14, Go.Proofs.Try.f14.body.getD .skip, kl14, fun _ _ => False⟩
def kl6 : KL := ⟨fun _ => [], fun n => match n with
  | 10 => .op 1 (.op 3 (.op 5 (.op 7 (.op 9 (.op 11 (.op 13 (.op 15 (.op 17 (.op 19 (.op 20 (.op 23 (.op 25 (.op 27 (.op 29 (.op 33 (.op 35 (.op 30 (.op 37 (.nil)))))))))))))))))))
  | _ => .no, fun _ => []⟩
noncomputable def fi6 : Fi tab := ⟨Go.Proofs.Try.f6, Go.Proofs.Try.f6.body.getD .skip, kl6, fun _ _ => False⟩
def kl16 : KL := ⟨fun _ => [], fun _ => .no, fun _ => []⟩
noncomputable def fi16 : Fi tab := ⟨Go.Proofs.Try.f16, Go.Proofs.Try.f16.body.getD .skip, kl16, fun _ _ => False⟩
def kl35 : KL := ⟨fun n => match n with
  | 0 => [2, 3, 6, 7, 8, 9, 10, 11, 12, 13, 14, 15, 16, 17, 18, 19, 20, 21, 22, 23, 24, 25, 26, 27, 28, 29]
  | _ => [], fun _ => .no, fun _ => []⟩
noncomputable def fi35 : Fi tab := ⟨Go.Proofs.Try.f35, Go.Proofs.Try.f35.body.getD .skip, kl35, fun _ _ => False⟩
def kl18 : KL := ⟨fun _ => [], fun _ => .no, fun _ => []⟩
noncomputable def fi18 : Fi tab := ⟨Go.Proofs.Try.f18, Go.Proofs.Try.f18.body.getD .skip, kl18, fun _ _ => False⟩
def kl17 : KL := ⟨fun n => match n with
  | 0 => [0, 3, 8, 9, 10, 11, 12, 13, 14, 15, 16, 17, 18, 19, 20, 21, 22, 23, 24, 25, 26, 27, 28, 29, 30, 31, 32, 33, 34, 35, 36, 37, 38, 39, 40, 41, 42, 43, 44, 45, 46, 47]
  | _ => [], fun n => match n with
  | 7 => .op 1 (.op 3 (.op 5 (.op 13 (.op 15 (.op 17 (.op 6 (.op 8 (.op 10 (.op 25 (.op 18 (.op 20 (.op 22 (.nil)))))))))))))
  | _ => .no, fun n => match n with
  | 7 => [23]
  | _ => []⟩
noncomputable def fi17 : Fi tab := ⟨Go.Proofs.Try.f17, Go.Proofs.Try.f17.body.getD .skip, kl17, fun _ _ => False⟩
def kl36 : KL := ⟨fun _ => [], fun _ => .no, fun _ => []⟩
noncomputable def fi36 : Fi tab := ⟨Go.Proofs.Try.f36, Go.Proofs.Try.f36.body.getD .skip, kl36, fun _ _ => False⟩
def kl52 : KL := ⟨fun _ => [], fun n => match n with
  | 1 => .op 1 (.op 3 (.op 5 (.op 7 (.op 9 (.op 11 (.op 13 (.op 15 (.op 17 (.op 19 (.op 21 (.op 23 (.op 25 (.op 27 (.op 29 (.op 31 (.op 33 (.op 35 (.nil))))))))))))))))))
  | _ => .no, fun _ => []⟩
noncomputable def fi52 : Fi tab := ⟨Go.Proofs.Try.f52, Go.Proofs.Try.f52.body.getD .skip, kl52, fun _ _ => False⟩
def kl37 : KL := ⟨fun _ => [], fun _ => .no, fun _ => []⟩
noncomputable def fi37 : Fi tab := ⟨Go.Proofs.Try.f37, Go.Proofs.Try.f37.body.getD .skip, kl37, fun _ _ => False⟩
def kl53 : KL := ⟨fun _ => [], fun _ => .no, fun _ => []⟩
noncomputable def fi53 : Fi tab := ⟨Go.Proofs.Try.f53, Go.Proofs.Try.f53.body.getD .skip, kl53, fun _ _ => False⟩
def kl39 : KL := ⟨fun _ => [], fun _ => .no, fun _ => []⟩
noncomputable def fi39 : Fi tab := ⟨Go.Proofs.Try.f39, Go.Proofs.Try.f39.body.getD .skip, kl39, fun _ _ => False⟩
def kl54 : KL := ⟨fun _ => [], fun _ => .no, fun _ => []⟩
noncomputable def fi54 : Fi tab := ⟨Go.Proofs.Try.f54, Go.Proofs.Try.f54.body.getD .skip, kl54, fun _ _ => False⟩
def kl64 : KL := ⟨fun n => match n with
  | 0 => [4, 5, 6, 9, 10, 11, 12, 13, 14, 15, 16, 18]
  | _ => [], fun _ => .no, fun _ => []⟩
noncomputable def fi64 : Fi tab := ⟨Go.Proofs.Try.f64, Go.Proofs.Try.f64.body.getD .skip, kl64, fun _ _ => False⟩
def kl55 : KL := ⟨fun _ => [], fun _ => .no, fun _ => []⟩
noncomputable def fi55 : Fi tab := ⟨Go.Proofs.Try.f55, Go.Proofs.Try.f55.body.getD .skip, kl55, fun _ _ => False⟩
def kl56 : KL := ⟨fun _ => [], fun _ => .no, fun _ => []⟩
noncomputable def fi56 : Fi tab := ⟨Go.Proofs.Try.f56, Go.Proofs.Try.f56.body.getD .skip, kl56, fun _ _ => False⟩
def kl20 : KL := ⟨fun _ => [], fun _ => .no, fun _ => []⟩
noncomputable def fi20 : Fi tab := ⟨Go.Proofs.Try.f20, Go.Proofs.Try.f20.body.getD .skip, kl20, fun _ _ => False⟩
def kl38 : KL := ⟨fun n => match n with
  | 0 => [0, 2, 3, 6, 7, 8, 9, 10, 11, 12, 13, 17, 18, 19, 20, 21, 22, 23, 24, 25, 26, 27, 28, 29, 30, 31, 32, 33, 34, 35, 36, 37, 38, 39, 40, 41, 42, 1000006]
  | _ => [], fun n => match n with
  | 8 => .op 1 (.op 3 (.op 5 (.op 7 (.op 11 (.op 13 (.op 8 (.op 15 (.nil))))))))
  | 9 => .op 1 (.op 3 (.op 5 (.op 7 (.op 11 (.op 13 (.op 8 (.op 14 (.op 17 (.nil)))))))))
  | _ => .no, fun _ => []⟩
noncomputable def fi38 : Fi tab := ⟨Go.Proofs.Try.f38, Go.Proofs.Try.f38.body.getD .skip, kl38, fun _ _ => False⟩
def kl57 : KL := ⟨fun _ => [], fun _ => .no, fun _ => []⟩
noncomputable def fi57 : Fi tab := ⟨Go.Proofs.Try.f57, Go.Proofs.Try.f57.body.getD .skip, kl57, fun _ _ => False⟩
def kl65 : KL := ⟨fun n => match n with
  | 0 => [4, 5, 6, 9, 10, 11, 12, 13, 14, 15, 16, 18]
  | _ => [], fun _ => .no, fun _ => []⟩
noncomputable def fi65 : Fi tab := ⟨Go.Proofs.Try.f65, Go.Proofs.Try.f65.body.getD .skip, kl65, fun _ _ => False⟩
def kl58 : KL := ⟨fun _ => [], fun _ => .no, fun _ => []⟩
noncomputable def fi58 : Fi tab := ⟨Go.Proofs.Try.f58, Go.Proofs.Try.f58.body.getD .skip, kl58, fun _ _ => False⟩
def kl59 : KL := ⟨fun _ => [], fun _ => .no, fun _ => []⟩
noncomputable def fi59 : Fi tab := ⟨Go.Proofs.Try.f59, Go.Proofs.Try.f59.body.getD .skip, kl59, fun _ _ => False⟩
def kl41 : KL := ⟨fun n => match n with
  | 0 => [2, 4, 5, 6, 7, 8, 9, 10, 11, 12]
  | _ => [], fun _ => .no, fun _ => []⟩
noncomputable def fi41 : Fi tab := ⟨Go.Proofs.Try.f41, Go.Proofs.Try.f41.body.getD .skip, kl41, fun _ _ => False⟩
def kl40 : KL := ⟨fun _ => [], fun _ => .no, fun _ => []⟩
noncomputable def fi40 : Fi tab := ⟨Go.Proofs.Try.f40, Go.Proofs.Try.f40.body.getD .skip, kl40, fun _ _ => False⟩
def kl21 : KL := ⟨fun _ => [], fun n => match n with
  | 1 => .op 1 (.op 3 (.op 7 (.op 9 (.op 4 (.op 10 (.op 13 (.nil)))))))
  | _ => .no, fun _ => []⟩
noncomputable def fi21 : Fi tab := ⟨Go.Proofs.Try.f21, Go.Proofs.Try.f21.body.getD .skip, kl21, fun _ _ => False⟩
def kl42 : KL := ⟨fun n => match n with
  | 0 => [0, 2, 4, 5, 6, 7, 8, 9, 10, 11, 12, 13, 14, 15, 16, 17, 18, 22, 23, 24, 25, 26, 27, 28, 29, 30, 31, 32, 33, 34, 35, 36]
  | _ => [], fun n => match n with
  | 1 => .op 1 (.op 3 (.op 7 (.op 9 (.op 15 (.op 17 (.op 19 (.op 4 (.op 10 (.op 13 (.op 20 (.op 23 (.nil))))))))))))
  | 5 => .op 1 (.op 3 (.op 7 (.op 9 (.op 11 (.op 13 (.op 15 (.op 4 (.op 17 (.op 19 (.nil))))))))))
  | _ => .no, fun _ => []⟩
noncomputable def fi42 : Fi tab := ⟨Go.Proofs.Try.f42, Go.Proofs.Try.f42.body.getD .skip, kl42, fun _ _ => False⟩
def kl63 : KL := ⟨fun _ => [], fun _ => .no, fun _ => []⟩
noncomputable def fi63 : Fi tab := ⟨Go.Proofs.Try.f63, Go.Proofs.Try.f63.body.getD .skip, kl63, fun _ _ => False⟩
def kl19 : KL := ⟨fun n => match n with
  | 0 => [2, 3, 9, 10, 11, 12, 13, 14, 15, 16, 17, 18, 19, 20, 21, 22, 23, 24, 25, 26, 27, 28, 29, 30, 31, 32, 33, 34, 35, 36, 37, 38, 39, 40, 41, 42, 43, 44, 45, 46, 47, 48, 49, 50, 51, 52, 53, 54, 55, 56, 57]
  | _ => [], fun _ => .no, fun _ => []⟩
noncomputable def fi19 : Fi tab := ⟨Go.Proofs.Try.f19, Go.Proofs.Try.f19.body.getD .skip, kl19, fun _ _ => False⟩
def kl7 : KL := ⟨fun _ => [], fun _ => .no, fun _ => []⟩
noncomputable def fi7 : Fi tab := ⟨Go.Proofs.Try.f7, Go.Proofs.Try.f7.body.getD .skip, kl7, fun _ _ => False⟩
def kl22 : KL := ⟨fun _ => [], fun _ => .no, fun _ => []⟩
noncomputable def fi22 : Fi tab := ⟨Go.Proofs.Try.f22, Go.Proofs.Try.f22.body.getD .skip, kl22, fun _ _ => False⟩
def kl43 : KL := ⟨fun n => match n with
  | 0 => [4, 6, 7, 8, 9, 10, 11, 12, 13, 14, 15, 16, 17, 18, 19, 20, 21, 22, 23, 24, 25]
  | _ => [], fun n => match n with
  | 6 => .op 1 (.op 3 (.op 5 (.op 7 (.op 9 (.op 11 (.op 13 (.op 15 (.nil))))))))
  | _ => .no, fun _ => []⟩
noncomputable def fi43 : Fi tab := ⟨Go.Proofs.Try.f43, Go.Proofs.Try.f43.body.getD .skip, kl43, fun _ _ => False⟩
def kl44 : KL := ⟨fun n => match n with
  | 0 => [4, 6, 7, 8, 9, 10, 11, 12, 13, 14, 15, 16, 17, 18, 19, 20, 21, 22, 23, 24, 25]
  | _ => [], fun n => match n with
  | 6 => .op 1 (.op 3 (.op 5 (.op 7 (.op 9 (.op 11 (.op 13 (.op 15 (.nil))))))))
  | _ => .no, fun _ => []⟩
noncomputable def fi44 : Fi tab := ⟨Go.Proofs.Try.f44, Go.Proofs.Try.f44.body.getD .skip, kl44, fun _ _ => False⟩
def kl23 : KL := ⟨fun n => match n with
  | 0 => [4, 6, 7, 8, 9, 10, 11, 12, 13, 14, 15, 16, 17, 18, 19, 20, 21, 22, 23, 24, 25, 26]
  | _ => [], fun n => match n with
  | 6 => .op 1 (.op 3 (.op 5 (.op 7 (.op 9 (.op 11 (.op 13 (.op 15 (.op 16 (.nil)))))))))
  | _ => .no, fun _ => []⟩
noncomputable def fi23 : Fi tab := ⟨Go.Proofs.Try.f23, Go.Proofs.Try.f23.body.getD .skip, kl23, fun _ _ => False⟩
def kl45 : KL := ⟨fun _ => [], fun _ => .no, fun _ => []⟩
noncomputable def fi45 : Fi tab := ⟨Go.Proofs.Try.f45, Go.Proofs.Try.f45.body.getD .skip, kl45, fun _ _ => False⟩
def kl8 : KL := ⟨fun n => match n with
  | 0 => [4, 6, 7, 8, 9, 10, 11, 12, 13, 14, 15, 16, 17, 18, 19, 20, 21, 22, 23, 24, 25]
  | _ => [], fun n => match n with
  | 6 => .op 1 (.op 3 (.op 5 (.op 7 (.op 9 (.op 11 (.op 13 (.op 15 (.nil))))))))
  | _ => .no, fun _ => []⟩
noncomputable def fi8 : Fi tab := ⟨Go.Proofs.Try.f8, Go.Proofs.Try.f8.body.getD .skip, kl8, fun _ _ => False⟩
def kl9 : KL := ⟨fun n => match n with
  | 0 => [4, 6, 7, 8, 9, 10, 11, 12, 13, 14, 15, 16, 17, 18]
  | _ => [], fun _ => .no, fun _ => []⟩
noncomputable def fi9 : Fi tab := ⟨Go.Proofs.Try.f9, Go.Proofs.Try.f9.body.getD .skip, kl9, fun _ _ => False⟩
def kl10 : KL := ⟨fun _ => [], fun _ => .no, fun _ => []⟩
noncomputable def fi10 : Fi tab := ⟨Go.Proofs.Try.f10, Go.Proofs.Try.f10.body.getD .skip, kl10, fun _ _ => False⟩
def kl24 : KL := ⟨fun _ => [], fun _ => .no, fun _ => []⟩
noncomputable def fi24 : Fi tab := ⟨Go.Proofs.Try.f24, Go.Proofs.Try.f24.body.getD .skip, kl24, fun _ _ => False⟩
def kl46 : KL := ⟨fun n => match n with
  | 0 => [4, 6, 7, 8, 9, 10, 11, 12, 13, 14, 15, 16, 17, 18]
  | _ => [], fun _ => .no, fun _ => []⟩
noncomputable def fi46 : Fi tab := ⟨Go.Proofs.Try.f46, Go.Proofs.Try.f46.body.getD .skip, kl46, fun _ _ => False⟩
def kl47 : KL := ⟨fun n => match n with
  | 0 => [4, 6, 7, 8, 9, 10, 11, 12, 13, 14, 15, 16, 17, 18]
  | _ => [], fun _ => .no, fun _ => []⟩
noncomputable def fi47 : Fi tab := ⟨Go.Proofs.Try.f47, Go.Proofs.Try.f47.body.getD .skip, kl47, fun _ _ => False⟩
def kl48 : KL := ⟨fun n => match n with
  | 0 => [2, 4, 5, 6, 7, 8, 9, 10, 11, 12, 13, 14, 15, 16, 17]
  | _ => [], fun _ => .no, fun _ => []⟩
noncomputable def fi48 : Fi tab := ⟨Go.Proofs.Try.f48, Go.Proofs.Try.f48.body.getD .skip, kl48, fun _ _ => False⟩
def kl25 : KL := ⟨fun n => match n with
  | 0 => [4, 6, 7, 8, 9, 10, 11, 12, 13, 14, 15, 16, 17, 18, 19, 20, 21, 22, 23, 24, 25, 26, 27, 28, 29, 30, 31, 32, 33, 34, 35, 36, 37, 38, 39, 40]
  | _ => [], fun _ => .no, fun _ => []⟩
noncomputable def fi25 : Fi tab := ⟨Go.Proofs.Try.f25, Go.Proofs.Try.f25.body.getD .skip, kl25, fun _ _ => False⟩
def kl11 : KL := ⟨fun _ => [], fun _ => .no, fun _ => []⟩
noncomputable def fi11 : Fi tab := ⟨Go.Proofs.Try.f11, Go.Proofs.Try.f11.body.getD .skip, kl11, fun _ _ => False⟩
def kl26 : KL := ⟨fun _ => [], fun _ => .no, fun _ => []⟩
noncomputable def fi26 : Fi tab := ⟨Go.Proofs.Try.f26, Go.Proofs.Try.f26.body.getD .skip, kl26, fun _ _ => False⟩
def kl49 : KL := ⟨fun n => match n with
  | 0 => [4, 6, 7, 8, 9, 10, 11, 12, 13, 14, 15, 16, 17, 18, 19, 20]
  | _ => [], fun _ => .no, fun _ => []⟩
noncomputable def fi49 : Fi tab := ⟨Go.Proofs.Try.f49, Go.Proofs.Try.f49.body.getD .skip, kl49, fun _ _ => False⟩
def kl50 : KL := ⟨fun n => match n with
  | 0 => [4, 6, 7, 8, 9, 10, 11, 12, 13, 14, 15, 16, 17, 18, 19, 20]
  | _ => [], fun n => match n with
  | 4 => .op 1 (.op 3 (.op 5 (.op 7 (.op 9 (.op 10 (.nil))))))
  | _ => .no, fun _ => []⟩
noncomputable def fi50 : Fi tab := ⟨Go.Proofs.Try.f50, Go.Proofs.Try.f50.body.getD .skip, kl50, fun _ _ => False⟩
def kl27 : KL := ⟨fun n => match n with
  | 0 => [4, 6, 7, 8, 9, 10, 11, 12, 13, 14, 15, 16, 17, 18, 19, 20, 21, 22, 23, 24, 25, 26, 27, 28, 29, 30, 31, 32, 33, 34, 35, 36, 37, 38, 39, 40, 41, 42, 43, 44, 45, 46, 47, 48]
  | _ => [], fun n => match n with
  | 7 => .op 1 (.op 3 (.op 5 (.op 7 (.op 9 (.op 11 (.op 12 (.nil)))))))
  | _ => .no, fun _ => []⟩
noncomputable def fi27 : Fi tab := ⟨Go.Proofs.Try.f27, Go.Proofs.Try.f27.body.getD .skip, kl27, fun _ _ => False⟩
noncomputable def F : FuncId → Option (Fi tab)
  | 3 => some fi3
  | 4 => some fi4
  | 5 => some fi5
  | 6 => some fi6
  | 7 => some fi7
  | 8 => some fi8
  | 9 => some fi9
  | 10 => some fi10
  | 11 => some fi11
  | 12 => some fi12
  | 13 => some fi13
  | 14 => some fi14
  | 15 => some fi15
  | 16 => some fi16
  | 17 => some fi17
  | 18 => some fi18
  | 19 => some fi19
  | 20 => some fi20
  | 21 => some fi21
  | 22 => some fi22
  | 23 => some fi23
  | 24 => some fi24
  | 25 => some fi25
  | 26 => some fi26
  | 27 => some fi27
  | 28 => some fi28
  | 29 => some fi29
  | 30 => some fi30
  | 31 => some fi31
  | 32 => some fi32
  | 33 => some fi33
  | 34 => some fi34
  | 35 => some fi35
  | 36 => some fi36
  | 37 => some fi37
  | 38 => some fi38
  | 39 => some fi39
  | 40 => some fi40
  | 41 => some fi41
  | 42 => some fi42
  | 43 => some fi43
  | 44 => some fi44
  | 45 => some fi45
  | 46 => some fi46
  | 47 => some fi47
  | 48 => some fi48
  | 49 => some fi49
  | 50 => some fi50
  | 51 => some fi51
  | 52 => some fi52
  | 53 => some fi53
  | 54 => some fi54
  | 55 => some fi55
  | 56 => some fi56
  | 57 => some fi57
  | 58 => some fi58
  | 59 => some fi59
  | 63 => some fi63
  | 64 => some fi64
  | 65 => some fi65
  | _ => none
end Go.I

/-! ILaw -/
set_option linter.unusedVariables false
set_option maxRecDepth 100000
set_option maxHeartbeats 4000000
namespace Go.I
open Go.RowKit
theorem fo3 : Go.Proofs.Try.prog.funcs[3]? = some fi3.fn ∧ fi3.fn.body = some fi3.body ∧ (fi3.fn.name == "runtime.NumGoroutine") = false ∧ drOK fi3.kills fi3.body = true := ⟨Go.Proofs.Try.func3, rfl, by kernel_rfl, by kernel_rfl⟩
theorem fo4 : Go.Proofs.Try.prog.funcs[4]? = some fi4.fn ∧ fi4.fn.body = some fi4.body ∧ (fi4.fn.name == "runtime.NumGoroutine") = false ∧ drOK fi4.kills fi4.body = true := ⟨Go.Proofs.Try.func4, rfl, by kernel_rfl, by kernel_rfl⟩
theorem fo5 : Go.Proofs.Try.prog.funcs[5]? = some fi5.fn ∧ fi5.fn.body = some fi5.body ∧ (fi5.fn.name == "runtime.NumGoroutine") = false ∧ drOK fi5.kills fi5.body = true := ⟨Go.Proofs.Try.func5, rfl, by kernel_rfl, by kernel_rfl⟩
theorem fo6 : Go.Proofs.Try.prog.funcs[6]? = some fi6.fn ∧ fi6.fn.body = some fi6.body ∧ (fi6.fn.name == "runtime.NumGoroutine") = false ∧ drOK fi6.kills fi6.body = true := ⟨Go.Proofs.Try.func6, rfl, by kernel_rfl, by kernel_rfl⟩
theorem fo7 : Go.Proofs.Try.prog.funcs[7]? = some fi7.fn ∧ fi7.fn.body = some fi7.body ∧ (fi7.fn.name == "runtime.NumGoroutine") = false ∧ drOK fi7.kills fi7.body = true := ⟨Go.Proofs.Try.func7, rfl, by kernel_rfl, by kernel_rfl⟩
theorem fo8 : Go.Proofs.Try.prog.funcs[8]? = some fi8.fn ∧ fi8.fn.body = some fi8.body ∧ (fi8.fn.name == "runtime.NumGoroutine") = false ∧ drOK fi8.kills fi8.body = true := ⟨Go.Proofs.Try.func8, rfl, by kernel_rfl, by kernel_rfl⟩
theorem fo9 : Go.Proofs.Try.prog.funcs[9]? = some fi9.fn ∧ fi9.fn.body = some fi9.body ∧ (fi9.fn.name == "runtime.NumGoroutine") = false ∧ drOK fi9.kills fi9.body = true := ⟨Go.Proofs.Try.func9, rfl, by kernel_rfl, by kernel_rfl⟩
theorem fo10 : Go.Proofs.Try.prog.funcs[10]? = some fi10.fn ∧ fi10.fn.body = some fi10.body ∧ (fi10.fn.name == "runtime.NumGoroutine") = false ∧ drOK fi10.kills fi10.body = true := ⟨Go.Proofs.Try.func10, rfl, by kernel_rfl, by kernel_rfl⟩
theorem fo11 : Go.Proofs.Try.prog.funcs[11]? = some fi11.fn ∧ fi11.fn.body = some fi11.body ∧ (fi11.fn.name == "runtime.NumGoroutine") = false ∧ drOK fi11.kills fi11.body = true := ⟨Go.Proofs.Try.func11, rfl, by kernel_rfl, by kernel_rfl⟩
theorem fo12 : Go.Proofs.Try.prog.funcs[12]? = some fi12.fn ∧ fi12.fn.body = some fi12.body ∧ (fi12.fn.name == "runtime.NumGoroutine") = false ∧ drOK fi12.kills fi12.body = true := ⟨Go.Proofs.Try.func12, rfl, by kernel_rfl, by kernel_rfl⟩
theorem fo13 : Go.Proofs.Try.prog.funcs[13]? = some fi13.fn ∧ fi13.fn.body = some fi13.body ∧ (fi13.fn.name == "runtime.NumGoroutine") = false ∧ drOK fi13.kills fi13.body = true := ⟨Go.Proofs.Try.func13, rfl, by kernel_rfl, by kernel_rfl⟩
theorem fo14 : Go.Proofs.Try.prog.funcs[14]? = some fi14.fn ∧ fi14.fn.body = some fi14.body ∧ (fi14.fn.name == "runtime.NumGoroutine") = false ∧ drOK fi14.kills fi14.body = true := ⟨Go.Proofs.Try.func14, rfl, by kernel_rfl, by kernel_rfl⟩
theorem fo15 : Go.Proofs.Try.prog.funcs[15]? = some fi15.fn ∧ fi15.fn.body = some fi15.body ∧ (fi15.fn.name == "runtime.NumGoroutine") = false ∧ drOK fi15.kills fi15.body = true := ⟨Go.Proofs.Try.func15, rfl, by kernel_rfl, by kernel_rfl⟩
theorem fo16 : Go.Proofs.Try.prog.funcs[16]? = some fi16.fn ∧ fi16.fn.body = some fi16.body ∧ (fi16.fn.name == "runtime.NumGoroutine") = false ∧ drOK fi16.kills fi16.body = true := ⟨Go.Proofs.Try.func16, rfl, by kernel_rfl, by kernel_rfl⟩
theorem fo17 : Go.Proofs.Try.prog.funcs[17]? = some fi17.fn ∧ fi17.fn.body = some fi17.body ∧ (fi17.fn.name == "runtime.NumGoroutine") = false ∧ drOK fi17.kills fi17.body = true := ⟨Go.Proofs.Try.func17, rfl, by kernel_rfl, by kernel_rfl⟩
theorem fo18 : Go.Proofs.Try.prog.funcs[18]? = some fi18.fn ∧ fi18.fn.body = some fi18.body ∧ (fi18.fn.name == "runtime.NumGoroutine") = false ∧ drOK fi18.kills fi18.body = true := ⟨Go.Proofs.Try.func18, rfl, by kernel_rfl, by kernel_rfl⟩
theorem fo19 : Go.Proofs.Try.prog.funcs[19]? = some fi19.fn ∧ fi19.fn.body = some fi19.body ∧ (fi19.fn.name == "runtime.NumGoroutine") = false ∧ drOK fi19.kills fi19.body = true := ⟨Go.Proofs.Try.func19, rfl, by kernel_rfl, by kernel_rfl⟩
theorem fo20 : Go.Proofs.Try.prog.funcs[20]? = some fi20.fn ∧ fi20.fn.body = some fi20.body ∧ (fi20.fn.name == "runtime.NumGoroutine") = false ∧ drOK fi20.kills fi20.body = true := ⟨Go.Proofs.Try.func20, rfl, by kernel_rfl, by kernel_rfl⟩
theorem fo21 : Go.Proofs.Try.prog.funcs[21]? = some fi21.fn ∧ fi21.fn.body = some fi21.body ∧ (fi21.fn.name == "runtime.NumGoroutine") = false ∧ drOK fi21.kills fi21.body = true := ⟨Go.Proofs.Try.func21, rfl, by kernel_rfl, by kernel_rfl⟩
theorem fo22 : Go.Proofs.Try.prog.funcs[22]? = some fi22.fn ∧ fi22.fn.body = some fi22.body ∧ (fi22.fn.name == "runtime.NumGoroutine") = false ∧ drOK fi22.kills fi22.body = true := ⟨Go.Proofs.Try.func22, rfl, by kernel_rfl, by kernel_rfl⟩
theorem fo23 : Go.Proofs.Try.prog.funcs[23]? = some fi23.fn ∧ fi23.fn.body = some fi23.body ∧ (fi23.fn.name == "runtime.NumGoroutine") = false ∧ drOK fi23.kills fi23.body = true := ⟨Go.Proofs.Try.func23, rfl, by kernel_rfl, by kernel_rfl⟩
theorem fo24 : Go.Proofs.Try.prog.funcs[24]? = some fi24.fn ∧ fi24.fn.body = some fi24.body ∧ (fi24.fn.name == "runtime.NumGoroutine") = false ∧ drOK fi24.kills fi24.body = true := ⟨Go.Proofs.Try.func24, rfl, by kernel_rfl, by kernel_rfl⟩
theorem fo25 : Go.Proofs.Try.prog.funcs[25]? = some fi25.fn ∧ fi25.fn.body = some fi25.body ∧ (fi25.fn.name == "runtime.NumGoroutine") = false ∧ drOK fi25.kills fi25.body = true := ⟨Go.Proofs.Try.func25, rfl, by kernel_rfl, by kernel_rfl⟩
theorem fo26 : Go.Proofs.Try.prog.funcs[26]? = some fi26.fn ∧ fi26.fn.body = some fi26.body ∧ (fi26.fn.name == "runtime.NumGoroutine") = false ∧ drOK fi26.kills fi26.body = true := ⟨Go.Proofs.Try.func26, rfl, by kernel_rfl, by kernel_rfl⟩
theorem fo27 : Go.Proofs.Try.prog.funcs[27]? = some fi27.fn ∧ fi27.fn.body = some fi27.body ∧ (fi27.fn.name == "runtime.NumGoroutine") = false ∧ drOK fi27.kills fi27.body = true := ⟨Go.Proofs.Try.func27, rfl, by kernel_rfl, by kernel_rfl⟩
theorem fo28 : Go.Proofs.Try.prog.funcs[28]? = some fi28.fn ∧ fi28.fn.body = some fi28.body ∧ (fi28.fn.name == "runtime.NumGoroutine") = false ∧ drOK fi28.kills fi28.body = true := ⟨Go.Proofs.Try.func28, rfl, by kernel_rfl, by kernel_rfl⟩
theorem fo29 : Go.Proofs.Try.prog.funcs[29]? = some fi29.fn ∧ fi29.fn.body = some fi29.body ∧ (fi29.fn.name == "runtime.NumGoroutine") = false ∧ drOK fi29.kills fi29.body = true := ⟨Go.Proofs.Try.func29, rfl, by kernel_rfl, by kernel_rfl⟩
theorem fo30 : Go.Proofs.Try.prog.funcs[30]? = some fi30.fn ∧ fi30.fn.body = some fi30.body ∧ (fi30.fn.name == "runtime.NumGoroutine") = false ∧ drOK fi30.kills fi30.body = true := ⟨Go.Proofs.Try.func30, rfl, by kernel_rfl, by kernel_rfl⟩
theorem fo31 : Go.Proofs.Try.prog.funcs[31]? = some fi31.fn ∧ fi31.fn.body = some fi31.body ∧ (fi31.fn.name == "runtime.NumGoroutine") = false ∧ drOK fi31.kills fi31.body = true := ⟨Go.Proofs.Try.func31, rfl, by kernel_rfl, by kernel_rfl⟩
theorem fo32 : Go.Proofs.Try.prog.funcs[32]? = some fi32.fn ∧ fi32.fn.body = some fi32.body ∧ (fi32.fn.name == "runtime.NumGoroutine") = false ∧ drOK fi32.kills fi32.body = true := ⟨Go.Proofs.Try.func32, rfl, by kernel_rfl, by kernel_rfl⟩
theorem fo33 : Go.Proofs.Try.prog.funcs[33]? = some fi33.fn ∧ fi33.fn.body = some fi33.body ∧ (fi33.fn.name == "runtime.NumGoroutine") = false ∧ drOK fi33.kills fi33.body = true := ⟨Go.Proofs.Try.func33, rfl, by kernel_rfl, by kernel_rfl⟩
theorem fo34 : Go.Proofs.Try.prog.funcs[34]? = some fi34.fn ∧ fi34.fn.body = some fi34.body ∧ (fi34.fn.name == "runtime.NumGoroutine") = false ∧ drOK fi34.kills fi34.body = true := ⟨Go.Proofs.Try.func34, rfl, by kernel_rfl, by kernel_rfl⟩
theorem fo35 : Go.Proofs.Try.prog.funcs[35]? = some fi35.fn ∧ fi35.fn.body = some fi35.body ∧ (fi35.fn.name == "runtime.NumGoroutine") = false ∧ drOK fi35.kills fi35.body = true := ⟨Go.Proofs.Try.func35, rfl, by kernel_rfl, by kernel_rfl⟩
theorem fo36 : Go.Proofs.Try.prog.funcs[36]? = some fi36.fn ∧ fi36.fn.body = some fi36.body ∧ (fi36.fn.name == "runtime.NumGoroutine") = false ∧ drOK fi36.kills fi36.body = true := ⟨Go.Proofs.Try.func36, rfl, by kernel_rfl, by kernel_rfl⟩
theorem fo37 : Go.Proofs.Try.prog.funcs[37]? = some fi37.fn ∧ fi37.fn.body = some fi37.body ∧ (fi37.fn.name == "runtime.NumGoroutine") = false ∧ drOK fi37.kills fi37.body = true := ⟨Go.Proofs.Try.func37, rfl, by kernel_rfl, by kernel_rfl⟩
theorem fo38 : Go.Proofs.Try.prog.funcs[38]? = some fi38.fn ∧ fi38.fn.body = some fi38.body ∧ (fi38.fn.name == "runtime.NumGoroutine") = false ∧ drOK fi38.kills fi38.body = true := ⟨Go.Proofs.Try.func38, rfl, by kernel_rfl, by kernel_rfl⟩
theorem fo39 : Go.Proofs.Try.prog.funcs[39]? = some fi39.fn ∧ fi39.fn.body = some fi39.body ∧ (fi39.fn.name == "runtime.NumGoroutine") = false ∧ drOK fi39.kills fi39.body = true := ⟨Go.Proofs.Try.func39, rfl, by kernel_rfl, by kernel_rfl⟩
theorem fo40 : Go.Proofs.Try.prog.funcs[40]? = some fi40.fn ∧ fi40.fn.body = some fi40.body ∧ (fi40.fn.name == "runtime.NumGoroutine") = false ∧ drOK fi40.kills fi40.body = true := ⟨Go.Proofs.Try.func40, rfl, by kernel_rfl, by kernel_rfl⟩
theorem fo41 : Go.Proofs.Try.prog.funcs[41]? = some fi41.fn ∧ fi41.fn.body = some fi41.body ∧ (fi41.fn.name == "runtime.NumGoroutine") = false ∧ drOK fi41.kills fi41.body = true := ⟨Go.Proofs.Try.func41, rfl, by kernel_rfl, by kernel_rfl⟩
theorem fo42 : Go.Proofs.Try.prog.funcs[42]? = some fi42.fn ∧ fi42.fn.body = some fi42.body ∧ (fi42.fn.name == "runtime.NumGoroutine") = false ∧ drOK fi42.kills fi42.body = true := ⟨Go.Proofs.Try.func42, rfl, by kernel_rfl, by kernel_rfl⟩
theorem fo43 : Go.Proofs.Try.prog.funcs[43]? = some fi43.fn ∧ fi43.fn.body = some fi43.body ∧ (fi43.fn.name == "runtime.NumGoroutine") = false ∧ drOK fi43.kills fi43.body = true := ⟨Go.Proofs.Try.func43, rfl, by kernel_rfl, by kernel_rfl⟩
theorem fo44 : Go.Proofs.Try.prog.funcs[44]? = some fi44.fn ∧ fi44.fn.body = some fi44.body ∧ (fi44.fn.name == "runtime.NumGoroutine") = false ∧ drOK fi44.kills fi44.body = true := ⟨Go.Proofs.Try.func44, rfl, by kernel_rfl, by kernel_rfl⟩
theorem fo45 : Go.Proofs.Try.prog.funcs[45]? = some fi45.fn ∧ fi45.fn.body = some fi45.body ∧ (fi45.fn.name == "runtime.NumGoroutine") = false ∧ drOK fi45.kills fi45.body = true := ⟨Go.Proofs.Try.func45, rfl, by kernel_rfl, by kernel_rfl⟩
theorem fo46 : Go.Proofs.Try.prog.funcs[46]? = some fi46.fn ∧ fi46.fn.body = some fi46.body ∧ (fi46.fn.name == "runtime.NumGoroutine") = false ∧ drOK fi46.kills fi46.body = true := ⟨Go.Proofs.Try.func46, rfl, by kernel_rfl, by kernel_rfl⟩
theorem fo47 : Go.Proofs.Try.prog.funcs[47]? = some fi47.fn ∧ fi47.fn.body = some fi47.body ∧ (fi47.fn.name == "runtime.NumGoroutine") = false ∧ drOK fi47.kills fi47.body = true := ⟨Go.Proofs.Try.func47, rfl, by kernel_rfl, by kernel_rfl⟩
theorem fo48 : Go.Proofs.Try.prog.funcs[48]? = some fi48.fn ∧ fi48.fn.body = some fi48.body ∧ (fi48.fn.name == "runtime.NumGoroutine") = false ∧ drOK fi48.kills fi48.body = true := ⟨Go.Proofs.Try.func48, rfl, by kernel_rfl, by kernel_rfl⟩
theorem fo49 : Go.Proofs.Try.prog.funcs[49]? = some fi49.fn ∧ fi49.fn.body = some fi49.body ∧ (fi49.fn.name == "runtime.NumGoroutine") = false ∧ drOK fi49.kills fi49.body = true := ⟨Go.Proofs.Try.func49, rfl, by kernel_rfl, by kernel_rfl⟩
theorem fo50 : Go.Proofs.Try.prog.funcs[50]? = some fi50.fn ∧ fi50.fn.body = some fi50.body ∧ (fi50.fn.name == "runtime.NumGoroutine") = false ∧ drOK fi50.kills fi50.body = true := ⟨Go.Proofs.Try.func50, rfl, by kernel_rfl, by kernel_rfl⟩
theorem fo51 : Go.Proofs.Try.prog.funcs[51]? = some fi51.fn ∧ fi51.fn.body = some fi51.body ∧ (fi51.fn.name == "runtime.NumGoroutine") = false ∧ drOK fi51.kills fi51.body = true := ⟨Go.Proofs.Try.func51, rfl, by kernel_rfl, by kernel_rfl⟩
theorem fo52 : Go.Proofs.Try.prog.funcs[52]? = some fi52.fn ∧ fi52.fn.body = some fi52.body ∧ (fi52.fn.name == "runtime.NumGoroutine") = false ∧ drOK fi52.kills fi52.body = true := ⟨Go.Proofs.Try.func52, rfl, by kernel_rfl, by kernel_rfl⟩
theorem fo53 : Go.Proofs.Try.prog.funcs[53]? = some fi53.fn ∧ fi53.fn.body = some fi53.body ∧ (fi53.fn.name == "runtime.NumGoroutine") = false ∧ drOK fi53.kills fi53.body = true := ⟨Go.Proofs.Try.func53, rfl, by kernel_rfl, by kernel_rfl⟩
theorem fo54 : Go.Proofs.Try.prog.funcs[54]? = some fi54.fn ∧ fi54.fn.body = some fi54.body ∧ (fi54.fn.name == "runtime.NumGoroutine") = false ∧ drOK fi54.kills fi54.body = true := ⟨Go.Proofs.Try.func54, rfl, by kernel_rfl, by kernel_rfl⟩
theorem fo55 : Go.Proofs.Try.prog.funcs[55]? = some fi55.fn ∧ fi55.fn.body = some fi55.body ∧ (fi55.fn.name == "runtime.NumGoroutine") = false ∧ drOK fi55.kills fi55.body = true := ⟨Go.Proofs.Try.func55, rfl, by kernel_rfl, by kernel_rfl⟩
theorem fo56 : Go.Proofs.Try.prog.funcs[56]? = some fi56.fn ∧ fi56.fn.body = some fi56.body ∧ (fi56.fn.name == "runtime.NumGoroutine") = false ∧ drOK fi56.kills fi56.body = true := ⟨Go.Proofs.Try.func56, rfl, by kernel_rfl, by kernel_rfl⟩
theorem fo57 : Go.Proofs.Try.prog.funcs[57]? = some fi57.fn ∧ fi57.fn.body = some fi57.body ∧ (fi57.fn.name == "runtime.NumGoroutine") = false ∧ drOK fi57.kills fi57.body = true := ⟨Go.Proofs.Try.func57, rfl, by kernel_rfl, by kernel_rfl⟩
theorem fo58 : Go.Proofs.Try.prog.funcs[58]? = some fi58.fn ∧ fi58.fn.body = some fi58.body ∧ (fi58.fn.name == "runtime.NumGoroutine") = false ∧ drOK fi58.kills fi58.body = true := ⟨Go.Proofs.Try.func58, rfl, by kernel_rfl, by kernel_rfl⟩
theorem fo59 : Go.Proofs.Try.prog.funcs[59]? = some fi59.fn ∧ fi59.fn.body = some fi59.body ∧ (fi59.fn.name == "runtime.NumGoroutine") = false ∧ drOK fi59.kills fi59.body = true := ⟨Go.Proofs.Try.func59, rfl, by kernel_rfl, by kernel_rfl⟩
theorem fo63 : Go.Proofs.Try.prog.funcs[63]? = some fi63.fn ∧ fi63.fn.body = some fi63.body ∧ (fi63.fn.name == "runtime.NumGoroutine") = false ∧ drOK fi63.kills fi63.body = true := ⟨Go.Proofs.Try.func63, rfl, by kernel_rfl, by kernel_rfl⟩
theorem fo64 : Go.Proofs.Try.prog.funcs[64]? = some fi64.fn ∧ fi64.fn.body = some fi64.body ∧ (fi64.fn.name == "runtime.NumGoroutine") = false ∧ drOK fi64.kills fi64.body = true := ⟨Go.Proofs.Try.func64, rfl, by kernel_rfl, by kernel_rfl⟩
theorem fo65 : Go.Proofs.Try.prog.funcs[65]? = some fi65.fn ∧ fi65.fn.body = some fi65.body ∧ (fi65.fn.name == "runtime.NumGoroutine") = false ∧ drOK fi65.kills fi65.body = true := ⟨Go.Proofs.Try.func65, rfl, by kernel_rfl, by kernel_rfl⟩
theorem funOK : FunOK Go.Proofs.Try.prog F := by
  intro f fi h
  unfold F at h
  split at h
  · injection h with h; subst h; exact fo3
  · injection h with h; subst h; exact fo4
  · injection h with h; subst h; exact fo5
  · injection h with h; subst h; exact fo6
  · injection h with h; subst h; exact fo7
  · injection h with h; subst h; exact fo8
  · injection h with h; subst h; exact fo9
  · injection h with h; subst h; exact fo10
  · injection h with h; subst h; exact fo11
  · injection h with h; subst h; exact fo12
  · injection h with h; subst h; exact fo13
  · injection h with h; subst h; exact fo14
  · injection h with h; subst h; exact fo15
  · injection h with h; subst h; exact fo16
  · injection h with h; subst h; exact fo17
  · injection h with h; subst h; exact fo18
  · injection h with h; subst h; exact fo19
  · injection h with h; subst h; exact fo20
  · injection h with h; subst h; exact fo21
  · injection h with h; subst h; exact fo22
  · injection h with h; subst h; exact fo23
  · injection h with h; subst h; exact fo24
  · injection h with h; subst h; exact fo25
  · injection h with h; subst h; exact fo26
  · injection h with h; subst h; exact fo27
  · injection h with h; subst h; exact fo28
  · injection h with h; subst h; exact fo29
  · injection h with h; subst h; exact fo30
  · injection h with h; subst h; exact fo31
  · injection h with h; subst h; exact fo32
  · injection h with h; subst h; exact fo33
  · injection h with h; subst h; exact fo34
  · injection h with h; subst h; exact fo35
  · injection h with h; subst h; exact fo36
  · injection h with h; subst h; exact fo37
  · injection h with h; subst h; exact fo38
  · injection h with h; subst h; exact fo39
  · injection h with h; subst h; exact fo40
  · injection h with h; subst h; exact fo41
  · injection h with h; subst h; exact fo42
  · injection h with h; subst h; exact fo43
  · injection h with h; subst h; exact fo44
  · injection h with h; subst h; exact fo45
  · injection h with h; subst h; exact fo46
  · injection h with h; subst h; exact fo47
  · injection h with h; subst h; exact fo48
  · injection h with h; subst h; exact fo49
  · injection h with h; subst h; exact fo50
  · injection h with h; subst h; exact fo51
  · injection h with h; subst h; exact fo52
  · injection h with h; subst h; exact fo53
  · injection h with h; subst h; exact fo54
  · injection h with h; subst h; exact fo55
  · injection h with h; subst h; exact fo56
  · injection h with h; subst h; exact fo57
  · injection h with h; subst h; exact fo58
  · injection h with h; subst h; exact fo59
  · injection h with h; subst h; exact fo63
  · injection h with h; subst h; exact fo64
  · injection h with h; subst h; exact fo65
  · cases h
theorem conOK : ConOK Go.Proofs.Try.prog tab M F := by
  intro f fi h As w ok0 r _ _ hc
  unfold F at h
  split at h
  · injection h with h; subst h; exact hc.elim
  · injection h with h; subst h; exact hc.elim
  · injection h with h; subst h; exact hc.elim
  · injection h with h; subst h; exact hc.elim
  · injection h with h; subst h; exact hc.elim
  · injection h with h; subst h; exact hc.elim
  · injection h with h; subst h; exact hc.elim
  · injection h with h; subst h; exact hc.elim
  · injection h with h; subst h; exact hc.elim
  · injection h with h; subst h; exact hc.elim
  · injection h with h; subst h; exact hc.elim
  · injection h with h; subst h; exact hc.elim
  · injection h with h; subst h; exact hc.elim
  · injection h with h; subst h; exact hc.elim
  · injection h with h; subst h; exact hc.elim
  · injection h with h; subst h; exact hc.elim
  · injection h with h; subst h; exact hc.elim
  · injection h with h; subst h; exact hc.elim
  · injection h with h; subst h; exact hc.elim
  · injection h with h; subst h; exact hc.elim
  · injection h with h; subst h; exact hc.elim
  · injection h with h; subst h; exact hc.elim
  · injection h with h; subst h; exact hc.elim
  · injection h with h; subst h; exact hc.elim
  · injection h with h; subst h; exact hc.elim
  · injection h with h; subst h; exact hc.elim
  · injection h with h; subst h; exact hc.elim
  · injection h with h; subst h; exact hc.elim
  · injection h with h; subst h; exact hc.elim
  · injection h with h; subst h; exact hc.elim
  · injection h with h; subst h; exact hc.elim
  · injection h with h; subst h; exact hc.elim
  · injection h with h; subst h; exact hc.elim
  · injection h with h; subst h; exact hc.elim
  · injection h with h; subst h; exact hc.elim
  · injection h with h; subst h; exact hc.elim
  · injection h with h; subst h; exact hc.elim
  · injection h with h; subst h; exact hc.elim
  · injection h with h; subst h; exact hc.elim
  · injection h with h; subst h; exact hc.elim
  · injection h with h; subst h; exact hc.elim
  · injection h with h; subst h; exact hc.elim
  · injection h with h; subst h; exact hc.elim
  · injection h with h; subst h; exact hc.elim
  · injection h with h; subst h; exact hc.elim
  · injection h with h; subst h; exact hc.elim
  · injection h with h; subst h; exact hc.elim
  · injection h with h; subst h; exact hc.elim
  · injection h with h; subst h; exact hc.elim
  · injection h with h; subst h; exact hc.elim
  · injection h with h; subst h; exact hc.elim
  · injection h with h; subst h; exact hc.elim
  · injection h with h; subst h; exact hc.elim
  · injection h with h; subst h; exact hc.elim
  · injection h with h; subst h; exact hc.elim
  · injection h with h; subst h; exact hc.elim
  · injection h with h; subst h; exact hc.elim
  · injection h with h; subst h; exact hc.elim
  · injection h with h; subst h; exact hc.elim
  · injection h with h; subst h; exact hc.elim
  · cases h
end Go.I

/-! ILawG -/
set_option linter.unusedVariables false
namespace Go.I
open Go.RowKit Go.Proofs.YtjebhkpabdogcabW.PrintWords
/-- A law over one row of bytes (FnExactGetMsg: function 3): its `.le` and the pure statement give the call. -/
theorem walk_bytes {g : Nat → List Int → Option Bool} (hle : ∀ k (a0 : List Int), Le F std M fi3.kills (fun r : Bool => ((([], []), .one (.lit (.bool r))) : Res tab)) (g k a0) (den std M fi3.kills fi3.fn fi3.body (tab.gives 3) (M 3) [.one (.imm 5 (a0 : List Int))] : Tr tab))
    {w : World} {A : Option Addr} {cap : Nat} {zs : List Int} (h : ReadsRow (fun (x : Int) cs => cs = [.int .u8 x]) 1 w A zs.length zs) (hc : zs.length ≤ cap) (hp : ∃ k, g k zs = some true) :
    Calls Go.Proofs.Try.prog 3 #[.slice A zs.length cap] w fun e w' => e = .returned (.bool true) ∧ Below w.heap.size w w' := by
  have hi : Imm w (fun b => b < w.heap.size) 1 (.imm 5 (zs : List Int) : VT tab) (.slice A zs.length cap) :=
    imm_of (B := tab) tabP.toTabE (e := 5) (n := 0) (l := (zs : List Int)) h hc rfl (by decide) (fun x cs hR => by
      subst hR
      exact lsI_lits (B := tab) (vs' := [.int .u8 x]) (fun v hv => by simp at hv; subst hv; rfl))
  obtain ⟨k, hk⟩ := hp
  have hG := hle k zs true hk
  exact law_calls tabP funOK conOK (f := 3) (fi := fi3) rfl rfl (As := [argV (.one (.imm 5 (zs : List Int))) (.slice A zs.length cap) [(.imm 5 (zs : List Int), .slice A zs.length cap)]])
    (fun B hB => by simp at hB; subst hB; exact argV_row hi) hG
end Go.I
