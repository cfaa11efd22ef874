/-
  Short names for the functions' bodies.
-/
import Derived.Test.YtcbclephakfemaaGreatRRRDoorRows
import Derived.Test.YtcbclephakfemaaGreatRRRDoorRun
namespace Go.Proofs.YtcbclephakfemaaGreatRRRDoor
open Go.Bk Go.Proofs
noncomputable abbrev Y3 := bodyOf Tryz.f3
noncomputable abbrev Y4 := bodyOf Tryz.f4
noncomputable abbrev Y5 := bodyOf Tryz.f5
noncomputable abbrev Y6 := bodyOf Tryz.f6
noncomputable abbrev Y7 := bodyOf Tryz.f7
noncomputable abbrev Y8 := bodyOf Tryz.f8
noncomputable abbrev Y9 := bodyOf Tryz.f9
noncomputable abbrev Y10 := bodyOf Tryz.f10
noncomputable abbrev Y11 := bodyOf Tryz.f11
noncomputable abbrev Y12 := bodyOf Tryz.f12
noncomputable abbrev Y13 := bodyOf Tryz.f13
noncomputable abbrev Y14 := bodyOf Tryz.f14
noncomputable abbrev Y15 := bodyOf Tryz.f15
noncomputable abbrev Y16 := bodyOf Tryz.f16
noncomputable abbrev Y17 := bodyOf Tryz.f17
noncomputable abbrev Y18 := bodyOf Tryz.f18
noncomputable abbrev Y19 := bodyOf Tryz.f19
noncomputable abbrev Y20 := bodyOf Tryz.f20
noncomputable abbrev Y21 := bodyOf Tryz.f21
noncomputable abbrev Y22 := bodyOf Tryz.f22
noncomputable abbrev Y23 := bodyOf Tryz.f23
noncomputable abbrev Y24 := bodyOf Tryz.f24
noncomputable abbrev Y25 := bodyOf Tryz.f25
noncomputable abbrev Y26 := bodyOf Tryz.f26
noncomputable abbrev Y27 := bodyOf Tryz.f27
noncomputable abbrev Y28 := bodyOf Tryz.f28
noncomputable abbrev Y29 := bodyOf Tryz.f29
noncomputable abbrev Y30 := bodyOf Tryz.f30
noncomputable abbrev Y31 := bodyOf Tryz.f31
noncomputable abbrev Y32 := bodyOf Tryz.f32
noncomputable abbrev Y33 := bodyOf Tryz.f33
noncomputable abbrev Y34 := bodyOf Tryz.f34
noncomputable abbrev Y35 := bodyOf Tryz.f35
noncomputable abbrev Y36 := bodyOf Tryz.f36
noncomputable abbrev Y37 := bodyOf Tryz.f37
noncomputable abbrev Y38 := bodyOf Tryz.f38
noncomputable abbrev Y39 := bodyOf Tryz.f39
noncomputable abbrev Y40 := bodyOf Tryz.f40
noncomputable abbrev Y41 := bodyOf Tryz.f41
noncomputable abbrev Y42 := bodyOf Tryz.f42
noncomputable abbrev Y43 := bodyOf Tryz.f43
noncomputable abbrev Y44 := bodyOf Tryz.f44
noncomputable abbrev Y45 := bodyOf Tryz.f45
noncomputable abbrev Y46 := bodyOf Tryz.f46
noncomputable abbrev Y47 := bodyOf Tryz.f47
noncomputable abbrev Y48 := bodyOf Tryz.f48
noncomputable abbrev Y49 := bodyOf Tryz.f49
noncomputable abbrev Y50 := bodyOf Tryz.f50
noncomputable abbrev Y53 := bodyOf Tryz.f53
noncomputable abbrev Y54 := bodyOf Tryz.f54
noncomputable abbrev Y55 := bodyOf Tryz.f55
noncomputable abbrev Y56 := bodyOf Tryz.f56
noncomputable abbrev Y58 := bodyOf Tryz.f58
noncomputable abbrev Y59 := bodyOf Tryz.f59
noncomputable abbrev Y60 := bodyOf Tryz.f60
noncomputable abbrev Y62 := bodyOf Tryz.f62
noncomputable abbrev Y63 := bodyOf Tryz.f63
noncomputable abbrev Y64 := bodyOf Tryz.f64
noncomputable abbrev Y65 := bodyOf Tryz.f65
noncomputable abbrev Y70 := bodyOf Tryz.f70
noncomputable abbrev Y71 := bodyOf Tryz.f71
noncomputable abbrev Y72 := bodyOf Tryz.f72
noncomputable abbrev Y73 := bodyOf Tryz.f73
noncomputable abbrev Y74 := bodyOf Tryz.f74
noncomputable abbrev Y75 := bodyOf Tryz.f75
noncomputable abbrev Y76 := bodyOf Tryz.f76
noncomputable abbrev Y77 := bodyOf Tryz.f77
noncomputable abbrev Y93 := bodyOf Tryz.f93
noncomputable abbrev Y94 := bodyOf Tryz.f94
end Go.Proofs.YtcbclephakfemaaGreatRRRDoor
