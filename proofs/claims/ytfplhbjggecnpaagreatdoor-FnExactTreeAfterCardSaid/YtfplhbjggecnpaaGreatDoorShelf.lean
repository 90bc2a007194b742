/-
 The data types of the laws arguments, and that the arguments of a row, read as data, are such data. No conditions.
-/
import Derived.Test.YtfplhbjggecnpaaGreatDoorProg
import Derived.Test.YtfplhbjggecnpaaGreatDoorAwB
import Derived.KernelRfl
import Derived.Ground.NamesProg
import Derived.Shelf.Strings.SlTrimAscii
import Derived.Shelf.Strconv.Itoa4
import Derived.Shelf.Strings.Count
import Derived.Shelf.Small.Wraps
import Derived.Shelf.Strings.BuilderK
import Derived.Shelf.Strings.Replace
namespace Go.Proofs.YtfplhbjggecnpaaGreatDoor
open List
open Go.AW
set_option linter.unusedVariables false
structure ac_ where
 Name : ByteArray
 Subs : List ByteArray
 Value : ByteArray
def ac_.cells (x : ac_) : List AV := [.val (.string x.Name), .list 0 1 (x.Subs.map am_), .val (.string x.Value)]
def ac_.wf (x : ac_) : Prop := du_ x.Name ∧ (dp_ du_) x.Subs ∧ du_ x.Value ∧ True
def ac_.sz (x : ac_) : Nat := ByteArray.size x.Name + (ao_ ByteArray.size) x.Subs + ByteArray.size x.Value
theorem ac_.sz_Name {x : ac_} {b : Nat} (h : ac_.sz x ≤ b) : ByteArray.size x.Name ≤ b := by unfold ac_.sz at h; omega
theorem ac_.sz_Subs {x : ac_} {b : Nat} (h : ac_.sz x ≤ b) : (ao_ ByteArray.size) x.Subs ≤ b := by unfold ac_.sz at h; omega
theorem ac_.sz_Value {x : ac_} {b : Nat} (h : ac_.sz x ≤ b) : ByteArray.size x.Value ≤ b := by unfold ac_.sz at h; omega
structure ad_ where
 Nodes : List ac_
def ad_.cells (x : ad_) : List AV := [.list 0 3 (x.Nodes.map ac_.cells)]
def ad_.wf (x : ad_) : Prop := (dp_ ac_.wf) x.Nodes ∧ True
def ad_.sz (x : ad_) : Nat := (ao_ ac_.sz) x.Nodes
theorem ad_.sz_Nodes {x : ad_} {b : Nat} (h : ad_.sz x ≤ b) : (ao_ ac_.sz) x.Nodes ≤ b := by unfold ad_.sz at h; omega
structure ab_ where
 Kind : Int
 Name : ByteArray
 Subs : List ByteArray
 Value : ByteArray
 N : Int
def ab_.cells (x : ab_) : List AV := [.val (.int .i64 x.Kind), .val (.string x.Name), .list 0 1 (x.Subs.map am_), .val (.string x.Value), .val (.int .i64 x.N)]
def ab_.wf (x : ab_) : Prop := g5_ x.Kind ∧ du_ x.Name ∧ (dp_ du_) x.Subs ∧ du_ x.Value ∧ g5_ x.N ∧ True
def ab_.sz (x : ab_) : Nat := ByteArray.size x.Name + (ao_ ByteArray.size) x.Subs + ByteArray.size x.Value
theorem ab_.sz_Name {x : ab_} {b : Nat} (h : ab_.sz x ≤ b) : ByteArray.size x.Name ≤ b := by unfold ab_.sz at h; omega
theorem ab_.sz_Subs {x : ab_} {b : Nat} (h : ab_.sz x ≤ b) : (ao_ ByteArray.size) x.Subs ≤ b := by unfold ab_.sz at h; omega
theorem ab_.sz_Value {x : ab_} {b : Nat} (h : ab_.sz x ≤ b) : ByteArray.size x.Value ≤ b := by unfold ab_.sz at h; omega
structure fH_ where
 Depth : Int
 Restarts : Int
 Events : List ab_
def fH_.cells (x : fH_) : List AV := [.val (.int .i64 x.Depth), .val (.int .i64 x.Restarts), .list 0 5 (x.Events.map ab_.cells)]
def fH_.wf (x : fH_) : Prop := g5_ x.Depth ∧ g5_ x.Restarts ∧ (dp_ ab_.wf) x.Events ∧ True
def fH_.sz (x : fH_) : Nat := (ao_ ab_.sz) x.Events
theorem fH_.sz_Events {x : fH_} {b : Nat} (h : fH_.sz x ≤ b) : (ao_ ab_.sz) x.Events ≤ b := by unfold fH_.sz at h; omega
structure ah_ where
 Job : Int
 Events : List ab_
def ah_.cells (x : ah_) : List AV := [.val (.int .i64 x.Job), .list 0 5 (x.Events.map ab_.cells)]
def ah_.wf (x : ah_) : Prop := g5_ x.Job ∧ (dp_ ab_.wf) x.Events ∧ True
def ah_.sz (x : ah_) : Nat := (ao_ ab_.sz) x.Events
theorem ah_.sz_Events {x : ah_} {b : Nat} (h : ah_.sz x ≤ b) : (ao_ ab_.sz) x.Events ≤ b := by unfold ah_.sz at h; omega
structure jd_ where
 Job : Int
 Event : ab_
def jd_.cells (x : jd_) : List AV := [.val (.int .i64 x.Job), .val (.int .i64 x.Event.Kind), .val (.string x.Event.Name), .list 0 1 (x.Event.Subs.map am_), .val (.string x.Event.Value), .val (.int .i64 x.Event.N)]
def jd_.wf (x : jd_) : Prop := g5_ x.Job ∧ ab_.wf x.Event ∧ True
def jd_.sz (x : jd_) : Nat := ab_.sz x.Event
structure a5_ where
 Kind : Int
 Name : ByteArray
 Subs : List ByteArray
 Value : ByteArray
def a5_.cells (x : a5_) : List AV := [.val (.int .i64 x.Kind), .val (.string x.Name), .list 0 1 (x.Subs.map am_), .val (.string x.Value)]
def a5_.wf (x : a5_) : Prop := g5_ x.Kind ∧ du_ x.Name ∧ (dp_ du_) x.Subs ∧ du_ x.Value ∧ True
def a5_.sz (x : a5_) : Nat := ByteArray.size x.Name + (ao_ ByteArray.size) x.Subs + ByteArray.size x.Value
theorem a5_.sz_Name {x : a5_} {b : Nat} (h : a5_.sz x ≤ b) : ByteArray.size x.Name ≤ b := by unfold a5_.sz at h; omega
theorem a5_.sz_Subs {x : a5_} {b : Nat} (h : a5_.sz x ≤ b) : (ao_ ByteArray.size) x.Subs ≤ b := by unfold a5_.sz at h; omega
theorem a5_.sz_Value {x : a5_} {b : Nat} (h : a5_.sz x ≤ b) : ByteArray.size x.Value ≤ b := by unfold a5_.sz at h; omega
theorem ps_ (W : World) : Rd Tryz.prog W 9 am_ du_ := tX_ (by kernel_rfl)
theorem Bd_ : ∃ i, Tryz.prog.info? 9 = some i ∧ i.size = 1 := lb_ (by kernel_rfl)
theorem xO_ (W : World) : Rd Tryz.prog W 72 (fun xs : List ByteArray => fT_ 1 am_ xs) (dp_ du_) := by
 obtain ⟨i, h1, h2⟩ := Bd_
 exact j4_ (by kernel_rfl) h1 h2 (by decide) (fun _ => rfl) (ps_ W)
theorem op_ : dE_ Tryz.prog 111 0 = some (0, 9, 1) := by kernel_rfl
theorem t5_ : dE_ Tryz.prog 111 1 = some (1, 72, 1) := by kernel_rfl
theorem ua_ : dE_ Tryz.prog 111 2 = some (2, 9, 1) := by kernel_rfl
theorem As_ (W : World) : Rd Tryz.prog W 111 ac_.cells ac_.wf := by
 intro H enc fuel cs d ps hr
 obtain ⟨fs, _, hfs, _⟩ := bC_ op_
 have hcl : Tryz.prog.cellsOf 111 = 3 := by kernel_rfl
 obtain ⟨xs, n, _, _, hlen, hxl, hall⟩ := DataW.trod_struct hfs hr
 rw [hcl] at hlen
 obtain ⟨fs0, f0, u0, v0, o0, y0, z0⟩ := bC_ op_
 rw [hfs] at u0; simp only [Option.some.injEq, TypeDesc.struct.injEq] at u0; subst u0
 obtain ⟨x0, w0, r0⟩ := dR_ (sz := 1) hall hxl v0 o0 (by rw [y0]; exact z0) (by rw [y0]; exact ps_ W)
 obtain ⟨fs1, f1, u1, v1, o1, y1, z1⟩ := bC_ t5_
 rw [hfs] at u1; simp only [Option.some.injEq, TypeDesc.struct.injEq] at u1; subst u1
 obtain ⟨x1, w1, r1⟩ := dR_ (sz := 1) hall hxl v1 o1 (by rw [y1]; exact z1) (by rw [y1]; exact xO_ W)
 obtain ⟨fs2, f2, u2, v2, o2, y2, z2⟩ := bC_ ua_
 rw [hfs] at u2; simp only [Option.some.injEq, TypeDesc.struct.injEq] at u2; subst u2
 obtain ⟨x2, w2, r2⟩ := dR_ (sz := 1) hall hxl v2 o2 (by rw [y2]; exact z2) (by rw [y2]; exact ps_ W)
 refine ⟨⟨x0, x1, x2⟩, ⟨w0, w1, w2, trivial⟩, ?_⟩
 have s3 : as_ (Sit.all W) [] (cs.drop 3) := hW_ _ (drop_eq_nil_of_le (by omega))
 have s2 : as_ (Sit.all W) (am_ x2 ++ ([])) (cs.drop 2) := cV_ (o := 2) r2 s3
 have s1 : as_ (Sit.all W) ((fT_ 1 am_) x1 ++ (am_ x2 ++ ([]))) (cs.drop 1) := cV_ (o := 1) r1 s2
 have s0 : as_ (Sit.all W) (am_ x0 ++ ((fT_ 1 am_) x1 ++ (am_ x2 ++ ([])))) (cs.drop 0) := cV_ (o := 0) r0 s1
 rw [drop_zero] at s0
 exact s0
theorem us_ : ∃ i, Tryz.prog.info? 111 = some i ∧ i.size = 3 := lb_ (by kernel_rfl)
theorem Eg_ (W : World) : Rd Tryz.prog W 22 (fun xs : List ac_ => fT_ 3 ac_.cells xs) (dp_ ac_.wf) := by
 obtain ⟨i, h1, h2⟩ := us_
 exact j4_ (by kernel_rfl) h1 h2 (by decide) (fun _ => rfl) (As_ W)
theorem lX_ : dE_ Tryz.prog 24 0 = some (0, 22, 1) := by kernel_rfl
theorem D9_ (W : World) : Rd Tryz.prog W 24 ad_.cells ad_.wf := by
 intro H enc fuel cs d ps hr
 obtain ⟨fs, _, hfs, _⟩ := bC_ lX_
 have hcl : Tryz.prog.cellsOf 24 = 1 := by kernel_rfl
 obtain ⟨xs, n, _, _, hlen, hxl, hall⟩ := DataW.trod_struct hfs hr
 rw [hcl] at hlen
 obtain ⟨fs0, f0, u0, v0, o0, y0, z0⟩ := bC_ lX_
 rw [hfs] at u0; simp only [Option.some.injEq, TypeDesc.struct.injEq] at u0; subst u0
 obtain ⟨x0, w0, r0⟩ := dR_ (sz := 1) hall hxl v0 o0 (by rw [y0]; exact z0) (by rw [y0]; exact Eg_ W)
 refine ⟨⟨x0⟩, ⟨w0, trivial⟩, ?_⟩
 have s1 : as_ (Sit.all W) [] (cs.drop 1) := hW_ _ (drop_eq_nil_of_le (by omega))
 have s0 : as_ (Sit.all W) ((fT_ 3 ac_.cells) x0 ++ ([])) (cs.drop 0) := cV_ (o := 0) r0 s1
 rw [drop_zero] at s0
 exact s0
theorem uD_ (W : World) : Rd Tryz.prog W 2 kG_ g5_ := z6_ (by kernel_rfl)
theorem pU_ : dE_ Tryz.prog 74 0 = some (0, 2, 1) := by kernel_rfl
theorem v8_ : dE_ Tryz.prog 74 1 = some (1, 9, 1) := by kernel_rfl
theorem u5_ : dE_ Tryz.prog 74 2 = some (2, 72, 1) := by kernel_rfl
theorem uC_ : dE_ Tryz.prog 74 3 = some (3, 9, 1) := by kernel_rfl
theorem wa_ : dE_ Tryz.prog 74 4 = some (4, 2, 1) := by kernel_rfl
theorem Ef_ (W : World) : Rd Tryz.prog W 74 ab_.cells ab_.wf := by
 intro H enc fuel cs d ps hr
 obtain ⟨fs, _, hfs, _⟩ := bC_ pU_
 have hcl : Tryz.prog.cellsOf 74 = 5 := by kernel_rfl
 obtain ⟨xs, n, _, _, hlen, hxl, hall⟩ := DataW.trod_struct hfs hr
 rw [hcl] at hlen
 obtain ⟨fs0, f0, u0, v0, o0, y0, z0⟩ := bC_ pU_
 rw [hfs] at u0; simp only [Option.some.injEq, TypeDesc.struct.injEq] at u0; subst u0
 obtain ⟨x0, w0, r0⟩ := dR_ (sz := 1) hall hxl v0 o0 (by rw [y0]; exact z0) (by rw [y0]; exact uD_ W)
 obtain ⟨fs1, f1, u1, v1, o1, y1, z1⟩ := bC_ v8_
 rw [hfs] at u1; simp only [Option.some.injEq, TypeDesc.struct.injEq] at u1; subst u1
 obtain ⟨x1, w1, r1⟩ := dR_ (sz := 1) hall hxl v1 o1 (by rw [y1]; exact z1) (by rw [y1]; exact ps_ W)
 obtain ⟨fs2, f2, u2, v2, o2, y2, z2⟩ := bC_ u5_
 rw [hfs] at u2; simp only [Option.some.injEq, TypeDesc.struct.injEq] at u2; subst u2
 obtain ⟨x2, w2, r2⟩ := dR_ (sz := 1) hall hxl v2 o2 (by rw [y2]; exact z2) (by rw [y2]; exact xO_ W)
 obtain ⟨fs3, f3, u3, v3, o3, y3, z3⟩ := bC_ uC_
 rw [hfs] at u3; simp only [Option.some.injEq, TypeDesc.struct.injEq] at u3; subst u3
 obtain ⟨x3, w3, r3⟩ := dR_ (sz := 1) hall hxl v3 o3 (by rw [y3]; exact z3) (by rw [y3]; exact ps_ W)
 obtain ⟨fs4, f4, u4, v4, o4, y4, z4⟩ := bC_ wa_
 rw [hfs] at u4; simp only [Option.some.injEq, TypeDesc.struct.injEq] at u4; subst u4
 obtain ⟨x4, w4, r4⟩ := dR_ (sz := 1) hall hxl v4 o4 (by rw [y4]; exact z4) (by rw [y4]; exact uD_ W)
 refine ⟨⟨x0, x1, x2, x3, x4⟩, ⟨w0, w1, w2, w3, w4, trivial⟩, ?_⟩
 have s5 : as_ (Sit.all W) [] (cs.drop 5) := hW_ _ (drop_eq_nil_of_le (by omega))
 have s4 : as_ (Sit.all W) (kG_ x4 ++ ([])) (cs.drop 4) := cV_ (o := 4) r4 s5
 have s3 : as_ (Sit.all W) (am_ x3 ++ (kG_ x4 ++ ([]))) (cs.drop 3) := cV_ (o := 3) r3 s4
 have s2 : as_ (Sit.all W) ((fT_ 1 am_) x2 ++ (am_ x3 ++ (kG_ x4 ++ ([])))) (cs.drop 2) := cV_ (o := 2) r2 s3
 have s1 : as_ (Sit.all W) (am_ x1 ++ ((fT_ 1 am_) x2 ++ (am_ x3 ++ (kG_ x4 ++ ([]))))) (cs.drop 1) := cV_ (o := 1) r1 s2
 have s0 : as_ (Sit.all W) (kG_ x0 ++ (am_ x1 ++ ((fT_ 1 am_) x2 ++ (am_ x3 ++ (kG_ x4 ++ ([])))))) (cs.drop 0) := cV_ (o := 0) r0 s1
 rw [drop_zero] at s0
 exact s0
theorem yO_ : ∃ i, Tryz.prog.info? 74 = some i ∧ i.size = 5 := lb_ (by kernel_rfl)
theorem Eb_ (W : World) : Rd Tryz.prog W 25 (fun xs : List ab_ => fT_ 5 ab_.cells xs) (dp_ ab_.wf) := by
 obtain ⟨i, h1, h2⟩ := yO_
 exact j4_ (by kernel_rfl) h1 h2 (by decide) (fun _ => rfl) (Ef_ W)
theorem qj_ : dE_ Tryz.prog 89 0 = some (0, 2, 1) := by kernel_rfl
theorem vT_ : dE_ Tryz.prog 89 1 = some (1, 25, 1) := by kernel_rfl
theorem DW_ (W : World) : Rd Tryz.prog W 89 ah_.cells ah_.wf := by
 intro H enc fuel cs d ps hr
 obtain ⟨fs, _, hfs, _⟩ := bC_ qj_
 have hcl : Tryz.prog.cellsOf 89 = 2 := by kernel_rfl
 obtain ⟨xs, n, _, _, hlen, hxl, hall⟩ := DataW.trod_struct hfs hr
 rw [hcl] at hlen
 obtain ⟨fs0, f0, u0, v0, o0, y0, z0⟩ := bC_ qj_
 rw [hfs] at u0; simp only [Option.some.injEq, TypeDesc.struct.injEq] at u0; subst u0
 obtain ⟨x0, w0, r0⟩ := dR_ (sz := 1) hall hxl v0 o0 (by rw [y0]; exact z0) (by rw [y0]; exact uD_ W)
 obtain ⟨fs1, f1, u1, v1, o1, y1, z1⟩ := bC_ vT_
 rw [hfs] at u1; simp only [Option.some.injEq, TypeDesc.struct.injEq] at u1; subst u1
 obtain ⟨x1, w1, r1⟩ := dR_ (sz := 1) hall hxl v1 o1 (by rw [y1]; exact z1) (by rw [y1]; exact Eb_ W)
 refine ⟨⟨x0, x1⟩, ⟨w0, w1, trivial⟩, ?_⟩
 have s2 : as_ (Sit.all W) [] (cs.drop 2) := hW_ _ (drop_eq_nil_of_le (by omega))
 have s1 : as_ (Sit.all W) ((fT_ 5 ab_.cells) x1 ++ ([])) (cs.drop 1) := cV_ (o := 1) r1 s2
 have s0 : as_ (Sit.all W) (kG_ x0 ++ ((fT_ 5 ab_.cells) x1 ++ ([]))) (cs.drop 0) := cV_ (o := 0) r0 s1
 rw [drop_zero] at s0
 exact s0
theorem yf_ : ∃ i, Tryz.prog.info? 89 = some i ∧ i.size = 2 := lb_ (by kernel_rfl)
theorem DY_ (W : World) : Rd Tryz.prog W 41 (fun xs : List ah_ => fT_ 2 ah_.cells xs) (dp_ ah_.wf) := by
 obtain ⟨i, h1, h2⟩ := yf_
 exact j4_ (by kernel_rfl) h1 h2 (by decide) (fun _ => rfl) (DW_ W)
theorem mixed : Tryz.prog.follows .mixedOrders = true := by kernel_rfl
end Go.Proofs.YtfplhbjggecnpaaGreatDoor
namespace Go.Proofs
open Go.Shelf
def Tryz.lays169_ren : Go.Shelf.Ren := ⟨fun | 169 => 191 | n => n, fun | 70 => 177 | 9 => 9 | 0 => 0 | 72 => 179 | 37 => 131 | 127 => 201 | 3 => 3 | 5 => 5 | n => n, fun | n => n⟩
theorem Tryz.lays169 : Go.Proofs.Lays.n169 Tryz.prog Tryz.lays169_ren := {
 mixed := by kernel_rfl
 f169 := Tryz.func191.trans (congrArg some (by kernel_rfl))
 t0 := Tryz.underlying0
 a0 := Tryz.isAgg0
 z0 := Tryz.sizeOf0
 v0 := Tryz.zeroValue0
 t3 := Tryz.underlying3
 a3 := Tryz.isAgg3
 z3 := Tryz.sizeOf3
 v3 := Tryz.zeroValue3
 t9 := Tryz.underlying9
 a9 := Tryz.isAgg9
 z9 := Tryz.sizeOf9
 v9 := Tryz.zeroValue9
 t37 := Tryz.underlying131
 a37 := Tryz.isAgg131
 z37 := Tryz.sizeOf131
 v37 := Tryz.zeroValue131
 t70 := Tryz.underlying177
 a70 := Tryz.isAgg177
 z70 := Tryz.sizeOf177
 v70 := Tryz.zeroValue177
 t72 := Tryz.underlying179
 a72 := Tryz.isAgg179
 z72 := Tryz.sizeOf179
 v72 := Tryz.zeroValue179
 t127 := Tryz.underlying201
 a127 := Tryz.isAgg201
 z127 := Tryz.sizeOf201
 v127 := Tryz.zeroValue201 }
theorem Tryz.Builder_Extra_169 : Builder.Extra Tryz.prog Tryz.lays169_ren := {
 sizeBuilder := by kernel_rfl
 liesBuilder := by kernel_rfl
 t5 := Tryz.underlying5
 a5 := Tryz.isAgg5
 z5 := Tryz.sizeOf5
 v5 := Tryz.zeroValue5
 infoByte := by kernel_rfl
 cellsByte := by kernel_rfl
 sizeByte := by kernel_rfl
 neB5 := by decide }
def Tryz.lays161_ren : Go.Shelf.Ren := ⟨fun | 161 => 226 | 231 => 238 | 227 => 239 | 233 => 240 | 235 => 241 | 228 => 254 | 197 => 249 | 151 => 255 | 260 => 259 | 152 => 265 | 137 => 277 | 119 => 278 | 224 => 268 | 225 => 267 | 217 => 266 | 266 => 279 | n => n, fun | 9 => 9 | 4 => 4 | 3 => 3 | 5 => 5 | 117 => 213 | 116 => 212 | 0 => 0 | 124 => 216 | 105 => 222 | 21 => 21 | 119 => 233 | 46 => 202 | 139 => 236 | 138 => 235 | n => n, fun | 3 => 1 | 4 => 2 | n => n⟩
theorem Tryz.lays161 : Go.Proofs.Lays.n161 Tryz.prog Tryz.lays161_ren := {
 mixed := by kernel_rfl
 f119 := Tryz.func278.trans (congrArg some (by kernel_rfl))
 f137 := Tryz.func277.trans (congrArg some (by kernel_rfl))
 f151 := Tryz.func255.trans (congrArg some (by kernel_rfl))
 f152 := Tryz.func265.trans (congrArg some (by kernel_rfl))
 f161 := Tryz.func226.trans (congrArg some (by kernel_rfl))
 f197 := Tryz.func249.trans (congrArg some (by kernel_rfl))
 f217 := Tryz.func266.trans (congrArg some (by kernel_rfl))
 f224 := Tryz.func268.trans (congrArg some (by kernel_rfl))
 f225 := Tryz.func267.trans (congrArg some (by kernel_rfl))
 f227 := Tryz.func239.trans (congrArg some (by kernel_rfl))
 f228 := Tryz.func254.trans (congrArg some (by kernel_rfl))
 f231 := Tryz.func238.trans (congrArg some (by kernel_rfl))
 f233 := Tryz.func240.trans (congrArg some (by kernel_rfl))
 f235 := Tryz.func241.trans (congrArg some (by kernel_rfl))
 f260 := Tryz.func259.trans (congrArg some (by kernel_rfl))
 f266 := Tryz.func279.trans (congrArg some (by kernel_rfl))
 t0 := Tryz.underlying0
 a0 := Tryz.isAgg0
 z0 := Tryz.sizeOf0
 v0 := Tryz.zeroValue0
 t3 := Tryz.underlying3
 a3 := Tryz.isAgg3
 z3 := Tryz.sizeOf3
 v3 := Tryz.zeroValue3
 t4 := Tryz.underlying4
 a4 := Tryz.isAgg4
 z4 := Tryz.sizeOf4
 v4 := Tryz.zeroValue4
 t5 := Tryz.underlying5
 a5 := Tryz.isAgg5
 z5 := Tryz.sizeOf5
 v5 := Tryz.zeroValue5
 t9 := Tryz.underlying9
 a9 := Tryz.isAgg9
 z9 := Tryz.sizeOf9
 v9 := Tryz.zeroValue9
 t21 := Tryz.underlying21
 a21 := Tryz.isAgg21
 z21 := Tryz.sizeOf21
 v21 := Tryz.zeroValue21
 t46 := Tryz.underlying202
 a46 := Tryz.isAgg202
 z46 := Tryz.sizeOf202
 v46 := Tryz.zeroValue202
 t105 := Tryz.underlying222
 a105 := Tryz.isAgg222
 z105 := Tryz.sizeOf222
 v105 := Tryz.zeroValue222
 t116 := Tryz.underlying212
 a116 := Tryz.isAgg212
 z116 := Tryz.sizeOf212
 t117 := Tryz.underlying213
 a117 := Tryz.isAgg213
 z117 := Tryz.sizeOf213
 v117 := Tryz.zeroValue213
 t119 := Tryz.underlying233
 a119 := Tryz.isAgg233
 z119 := Tryz.sizeOf233
 t124 := Tryz.underlying216
 a124 := Tryz.isAgg216
 z124 := Tryz.sizeOf216
 v124 := Tryz.zeroValue216
 t138 := Tryz.underlying235
 a138 := Tryz.isAgg235
 z138 := Tryz.sizeOf235
 v138 := Tryz.zeroValue235
 t139 := Tryz.underlying236
 a139 := Tryz.isAgg236
 z139 := Tryz.sizeOf236
 v139 := Tryz.zeroValue236
 g3 := by kernel_rfl
 g4 := by kernel_rfl }
def Tryz.lays162_ren : Go.Shelf.Ren := ⟨fun | 162 => 237 | 232 => 251 | 227 => 239 | 234 => 252 | 236 => 253 | 228 => 254 | 271 => 264 | 151 => 255 | 120 => 276 | 197 => 249 | 152 => 265 | 260 => 259 | 137 => 277 | 119 => 278 | 224 => 268 | 225 => 267 | 217 => 266 | 266 => 279 | n => n, fun | 9 => 9 | 4 => 4 | 3 => 3 | 5 => 5 | 117 => 213 | 116 => 212 | 0 => 0 | 124 => 216 | 21 => 21 | 105 => 222 | 46 => 202 | 119 => 233 | 139 => 236 | 138 => 235 | n => n, fun | 3 => 1 | 4 => 2 | n => n⟩
theorem Tryz.lays162 : Go.Proofs.Lays.n162 Tryz.prog Tryz.lays162_ren := {
 mixed := by kernel_rfl
 f119 := Tryz.func278.trans (congrArg some (by kernel_rfl))
 f120 := Tryz.func276.trans (congrArg some (by kernel_rfl))
 f137 := Tryz.func277.trans (congrArg some (by kernel_rfl))
 f151 := Tryz.func255.trans (congrArg some (by kernel_rfl))
 f152 := Tryz.func265.trans (congrArg some (by kernel_rfl))
 f162 := Tryz.func237.trans (congrArg some (by kernel_rfl))
 f197 := Tryz.func249.trans (congrArg some (by kernel_rfl))
 f217 := Tryz.func266.trans (congrArg some (by kernel_rfl))
 f224 := Tryz.func268.trans (congrArg some (by kernel_rfl))
 f225 := Tryz.func267.trans (congrArg some (by kernel_rfl))
 f227 := Tryz.func239.trans (congrArg some (by kernel_rfl))
 f228 := Tryz.func254.trans (congrArg some (by kernel_rfl))
 f232 := Tryz.func251.trans (congrArg some (by kernel_rfl))
 f234 := Tryz.func252.trans (congrArg some (by kernel_rfl))
 f236 := Tryz.func253.trans (congrArg some (by kernel_rfl))
 f260 := Tryz.func259.trans (congrArg some (by kernel_rfl))
 f266 := Tryz.func279.trans (congrArg some (by kernel_rfl))
 f271 := Tryz.func264.trans (congrArg some (by kernel_rfl))
 t0 := Tryz.underlying0
 a0 := Tryz.isAgg0
 z0 := Tryz.sizeOf0
 v0 := Tryz.zeroValue0
 t3 := Tryz.underlying3
 a3 := Tryz.isAgg3
 z3 := Tryz.sizeOf3
 v3 := Tryz.zeroValue3
 t4 := Tryz.underlying4
 a4 := Tryz.isAgg4
 z4 := Tryz.sizeOf4
 v4 := Tryz.zeroValue4
 t5 := Tryz.underlying5
 a5 := Tryz.isAgg5
 z5 := Tryz.sizeOf5
 v5 := Tryz.zeroValue5
 t9 := Tryz.underlying9
 a9 := Tryz.isAgg9
 z9 := Tryz.sizeOf9
 v9 := Tryz.zeroValue9
 t21 := Tryz.underlying21
 a21 := Tryz.isAgg21
 z21 := Tryz.sizeOf21
 v21 := Tryz.zeroValue21
 t46 := Tryz.underlying202
 a46 := Tryz.isAgg202
 z46 := Tryz.sizeOf202
 v46 := Tryz.zeroValue202
 t105 := Tryz.underlying222
 a105 := Tryz.isAgg222
 z105 := Tryz.sizeOf222
 v105 := Tryz.zeroValue222
 t116 := Tryz.underlying212
 a116 := Tryz.isAgg212
 z116 := Tryz.sizeOf212
 t117 := Tryz.underlying213
 a117 := Tryz.isAgg213
 z117 := Tryz.sizeOf213
 v117 := Tryz.zeroValue213
 t119 := Tryz.underlying233
 a119 := Tryz.isAgg233
 z119 := Tryz.sizeOf233
 t124 := Tryz.underlying216
 a124 := Tryz.isAgg216
 z124 := Tryz.sizeOf216
 v124 := Tryz.zeroValue216
 t138 := Tryz.underlying235
 a138 := Tryz.isAgg235
 z138 := Tryz.sizeOf235
 v138 := Tryz.zeroValue235
 t139 := Tryz.underlying236
 a139 := Tryz.isAgg236
 z139 := Tryz.sizeOf236
 v139 := Tryz.zeroValue236
 g3 := by kernel_rfl
 g4 := by kernel_rfl }
def Tryz.lays103_ren : Go.Shelf.Ren := ⟨fun | 103 => 229 | 210 => 245 | 206 => 257 | n => n, fun | 9 => 9 | 4 => 4 | 24 => 145 | 3 => 3 | n => n, fun | n => n⟩
theorem Tryz.lays103 : Go.Proofs.Lays.n103 Tryz.prog Tryz.lays103_ren := {
 mixed := by kernel_rfl
 f103 := Tryz.func229.trans (congrArg some (by kernel_rfl))
 f206 := Tryz.func257.trans (congrArg some (by kernel_rfl))
 f210 := Tryz.func245.trans (congrArg some (by kernel_rfl))
 t3 := Tryz.underlying3
 a3 := Tryz.isAgg3
 z3 := Tryz.sizeOf3
 v3 := Tryz.zeroValue3
 t4 := Tryz.underlying4
 a4 := Tryz.isAgg4
 z4 := Tryz.sizeOf4
 v4 := Tryz.zeroValue4
 t9 := Tryz.underlying9
 a9 := Tryz.isAgg9
 z9 := Tryz.sizeOf9
 v9 := Tryz.zeroValue9
 t24 := Tryz.underlying145
 a24 := Tryz.isAgg145
 z24 := Tryz.sizeOf145
 v24 := Tryz.zeroValue145 }
def Tryz.laysM173_ren : Go.Shelf.Ren := ⟨fun | 173 => 236 | 246 => 250 | 283 => 260 | 284 => 261 | 285 => 262 | 286 => 263 | 129 => 272 | 317 => 271 | 318 => 273 | 319 => 274 | 320 => 275 | 337 => 281 | 338 => 282 | n => n, fun | 2 => 2 | 3 => 3 | 9 => 9 | 4 => 4 | 171 => 225 | 0 => 0 | 53 => 194 | 37 => 131 | 5 => 5 | 173 => 228 | 212 => 238 | 51 => 239 | 20 => 20 | 213 => 240 | 46 => 202 | 232 => 247 | 233 => 248 | n => n, fun | 17 => 3 | 18 => 4 | 19 => 5 | n => n⟩
theorem Tryz.laysM173 : Go.Proofs.LaysM.n173 Tryz.prog Tryz.laysM173_ren := {
 mixed := by kernel_rfl
 f129 := Tryz.func272.trans (congrArg some (by kernel_rfl))
 f173 := Tryz.func236.trans (congrArg some (by kernel_rfl))
 f246 := Tryz.func250.trans (congrArg some (by kernel_rfl))
 f283 := Tryz.func260.trans (congrArg some (by kernel_rfl))
 f284 := Tryz.func261.trans (congrArg some (by kernel_rfl))
 f285 := Tryz.func262.trans (congrArg some (by kernel_rfl))
 f286 := Tryz.func263.trans (congrArg some (by kernel_rfl))
 f317 := Tryz.func271.trans (congrArg some (by kernel_rfl))
 f318 := Tryz.func273.trans (congrArg some (by kernel_rfl))
 f319 := Tryz.func274.trans (congrArg some (by kernel_rfl))
 f320 := Tryz.func275.trans (congrArg some (by kernel_rfl))
 f337 := Tryz.func281.trans (congrArg some (by kernel_rfl))
 f338 := Tryz.func282.trans (congrArg some (by kernel_rfl))
 t0 := Tryz.underlying0
 a0 := Tryz.isAgg0
 z0 := Tryz.sizeOf0
 v0 := Tryz.zeroValue0
 t2 := Tryz.underlying2
 a2 := Tryz.isAgg2
 z2 := Tryz.sizeOf2
 v2 := Tryz.zeroValue2
 t3 := Tryz.underlying3
 a3 := Tryz.isAgg3
 z3 := Tryz.sizeOf3
 v3 := Tryz.zeroValue3
 t4 := Tryz.underlying4
 a4 := Tryz.isAgg4
 z4 := Tryz.sizeOf4
 v4 := Tryz.zeroValue4
 t5 := Tryz.underlying5
 a5 := Tryz.isAgg5
 z5 := Tryz.sizeOf5
 v5 := Tryz.zeroValue5
 t9 := Tryz.underlying9
 a9 := Tryz.isAgg9
 z9 := Tryz.sizeOf9
 v9 := Tryz.zeroValue9
 t20 := Tryz.underlying20
 a20 := Tryz.isAgg20
 z20 := Tryz.sizeOf20
 v20 := Tryz.zeroValue20
 t37 := Tryz.underlying131
 a37 := Tryz.isAgg131
 z37 := Tryz.sizeOf131
 v37 := Tryz.zeroValue131
 t46 := Tryz.underlying202
 a46 := Tryz.isAgg202
 z46 := Tryz.sizeOf202
 v46 := Tryz.zeroValue202
 t51 := Tryz.underlying239
 a51 := Tryz.isAgg239
 z51 := Tryz.sizeOf239
 v51 := Tryz.zeroValue239
 t53 := Tryz.underlying194
 a53 := Tryz.isAgg194
 z53 := Tryz.sizeOf194
 v53 := Tryz.zeroValue194
 t171 := Tryz.underlying225
 a171 := Tryz.isAgg225
 z171 := Tryz.sizeOf225
 v171 := Tryz.zeroValue225
 t173 := Tryz.underlying228
 a173 := Tryz.isAgg228
 z173 := Tryz.sizeOf228
 v173 := Tryz.zeroValue228
 t212 := Tryz.underlying238
 a212 := Tryz.isAgg238
 z212 := Tryz.sizeOf238
 v212 := Tryz.zeroValue238
 t213 := Tryz.underlying240
 a213 := Tryz.isAgg240
 z213 := Tryz.sizeOf240
 t232 := Tryz.underlying247
 a232 := Tryz.isAgg247
 z232 := Tryz.sizeOf247
 v232 := Tryz.zeroValue247
 t233 := Tryz.underlying248
 a233 := Tryz.isAgg248
 z233 := Tryz.sizeOf248
 v233 := Tryz.zeroValue248
 g17 := by kernel_rfl
 g18 := by kernel_rfl
 g19 := by kernel_rfl
 i0 := by kernel_rfl
 i2 := by kernel_rfl
 i3 := by kernel_rfl
 i4 := by kernel_rfl
 i5 := by kernel_rfl
 i9 := by kernel_rfl
 i20 := by kernel_rfl
 i37 := by kernel_rfl
 i46 := by kernel_rfl
 i51 := by kernel_rfl
 i53 := by kernel_rfl
 i171 := by kernel_rfl
 i173 := by kernel_rfl
 i212 := by kernel_rfl
 i232 := by kernel_rfl
 i233 := by kernel_rfl
 m17 := by kernel_rfl
 m18 := by kernel_rfl
 m19 := by kernel_rfl }
def Tryz.lays138_ren : Go.Shelf.Ren := ⟨fun | 138 => 227 | 195 => 242 | 218 => 243 | 143 => 244 | 219 => 256 | 217 => 266 | 225 => 267 | 224 => 268 | 267 => 269 | 266 => 279 | 314 => 280 | n => n, fun | 9 => 9 | 3 => 3 | 4 => 4 | 5 => 5 | 0 => 0 | 46 => 202 | 146 => 244 | 51 => 239 | n => n, fun | 1 => 0 | n => n⟩
theorem Tryz.lays138 : Go.Proofs.Lays.n138 Tryz.prog Tryz.lays138_ren := {
 mixed := by kernel_rfl
 f138 := Tryz.func227.trans (congrArg some (by kernel_rfl))
 f143 := Tryz.func244.trans (congrArg some (by kernel_rfl))
 f195 := Tryz.func242.trans (congrArg some (by kernel_rfl))
 f217 := Tryz.func266.trans (congrArg some (by kernel_rfl))
 f218 := Tryz.func243.trans (congrArg some (by kernel_rfl))
 f219 := Tryz.func256.trans (congrArg some (by kernel_rfl))
 f224 := Tryz.func268.trans (congrArg some (by kernel_rfl))
 f225 := Tryz.func267.trans (congrArg some (by kernel_rfl))
 f266 := Tryz.func279.trans (congrArg some (by kernel_rfl))
 f267 := Tryz.func269.trans (congrArg some (by kernel_rfl))
 f314 := Tryz.func280.trans (congrArg some (by kernel_rfl))
 t0 := Tryz.underlying0
 a0 := Tryz.isAgg0
 z0 := Tryz.sizeOf0
 v0 := Tryz.zeroValue0
 t3 := Tryz.underlying3
 a3 := Tryz.isAgg3
 z3 := Tryz.sizeOf3
 v3 := Tryz.zeroValue3
 t4 := Tryz.underlying4
 a4 := Tryz.isAgg4
 z4 := Tryz.sizeOf4
 v4 := Tryz.zeroValue4
 t5 := Tryz.underlying5
 a5 := Tryz.isAgg5
 z5 := Tryz.sizeOf5
 v5 := Tryz.zeroValue5
 t9 := Tryz.underlying9
 a9 := Tryz.isAgg9
 z9 := Tryz.sizeOf9
 v9 := Tryz.zeroValue9
 t46 := Tryz.underlying202
 a46 := Tryz.isAgg202
 z46 := Tryz.sizeOf202
 v46 := Tryz.zeroValue202
 t51 := Tryz.underlying239
 a51 := Tryz.isAgg239
 z51 := Tryz.sizeOf239
 v51 := Tryz.zeroValue239
 t146 := Tryz.underlying244
 a146 := Tryz.isAgg244
 z146 := Tryz.sizeOf244
 v146 := Tryz.zeroValue244
 g1 := by kernel_rfl }
def Tryz.lays155_ren : Go.Shelf.Ren := ⟨fun | 155 => 218 | 154 => 233 | 138 => 227 | 165 => 248 | 143 => 244 | 166 => 217 | 197 => 249 | 169 => 191 | 195 => 242 | 218 => 243 | 240 => 232 | 241 => 258 | 219 => 256 | 260 => 259 | 276 => 247 | 277 => 270 | 217 => 266 | 225 => 267 | 224 => 268 | 267 => 269 | 266 => 279 | 314 => 280 | n => n, fun | 9 => 9 | 3 => 3 | 4 => 4 | 72 => 179 | 0 => 0 | 76 => 198 | 105 => 222 | 21 => 21 | 5 => 5 | 70 => 177 | 20 => 20 | 37 => 131 | 75 => 196 | 127 => 201 | 164 => 219 | 46 => 202 | 119 => 233 | 139 => 236 | 138 => 235 | 146 => 244 | 51 => 239 | 80 => 181 | n => n, fun | 1 => 0 | 3 => 1 | 4 => 2 | n => n⟩
theorem Tryz.lays155 : Go.Proofs.Lays.n155 Tryz.prog Tryz.lays155_ren := {
 mixed := by kernel_rfl
 f138 := Tryz.func227.trans (congrArg some (by kernel_rfl))
 f143 := Tryz.func244.trans (congrArg some (by kernel_rfl))
 f154 := Tryz.func233.trans (congrArg some (by kernel_rfl))
 f155 := Tryz.func218.trans (congrArg some (by kernel_rfl))
 f165 := Tryz.func248.trans (congrArg some (by kernel_rfl))
 f166 := Tryz.func217.trans (congrArg some (by kernel_rfl))
 f169 := Tryz.func191.trans (congrArg some (by kernel_rfl))
 f195 := Tryz.func242.trans (congrArg some (by kernel_rfl))
 f197 := Tryz.func249.trans (congrArg some (by kernel_rfl))
 f217 := Tryz.func266.trans (congrArg some (by kernel_rfl))
 f218 := Tryz.func243.trans (congrArg some (by kernel_rfl))
 f219 := Tryz.func256.trans (congrArg some (by kernel_rfl))
 f224 := Tryz.func268.trans (congrArg some (by kernel_rfl))
 f225 := Tryz.func267.trans (congrArg some (by kernel_rfl))
 f240 := Tryz.func232.trans (congrArg some (by kernel_rfl))
 f241 := Tryz.func258.trans (congrArg some (by kernel_rfl))
 f260 := Tryz.func259.trans (congrArg some (by kernel_rfl))
 f266 := Tryz.func279.trans (congrArg some (by kernel_rfl))
 f267 := Tryz.func269.trans (congrArg some (by kernel_rfl))
 f276 := Tryz.func247.trans (congrArg some (by kernel_rfl))
 f277 := Tryz.func270.trans (congrArg some (by kernel_rfl))
 f314 := Tryz.func280.trans (congrArg some (by kernel_rfl))
 t0 := Tryz.underlying0
 a0 := Tryz.isAgg0
 z0 := Tryz.sizeOf0
 v0 := Tryz.zeroValue0
 t3 := Tryz.underlying3
 a3 := Tryz.isAgg3
 z3 := Tryz.sizeOf3
 v3 := Tryz.zeroValue3
 t4 := Tryz.underlying4
 a4 := Tryz.isAgg4
 z4 := Tryz.sizeOf4
 v4 := Tryz.zeroValue4
 t5 := Tryz.underlying5
 a5 := Tryz.isAgg5
 z5 := Tryz.sizeOf5
 v5 := Tryz.zeroValue5
 t9 := Tryz.underlying9
 a9 := Tryz.isAgg9
 z9 := Tryz.sizeOf9
 v9 := Tryz.zeroValue9
 t20 := Tryz.underlying20
 a20 := Tryz.isAgg20
 z20 := Tryz.sizeOf20
 v20 := Tryz.zeroValue20
 t21 := Tryz.underlying21
 a21 := Tryz.isAgg21
 z21 := Tryz.sizeOf21
 v21 := Tryz.zeroValue21
 t37 := Tryz.underlying131
 a37 := Tryz.isAgg131
 z37 := Tryz.sizeOf131
 v37 := Tryz.zeroValue131
 t46 := Tryz.underlying202
 a46 := Tryz.isAgg202
 z46 := Tryz.sizeOf202
 v46 := Tryz.zeroValue202
 t51 := Tryz.underlying239
 a51 := Tryz.isAgg239
 z51 := Tryz.sizeOf239
 v51 := Tryz.zeroValue239
 t70 := Tryz.underlying177
 a70 := Tryz.isAgg177
 z70 := Tryz.sizeOf177
 v70 := Tryz.zeroValue177
 t72 := Tryz.underlying179
 a72 := Tryz.isAgg179
 z72 := Tryz.sizeOf179
 v72 := Tryz.zeroValue179
 t75 := Tryz.underlying196
 a75 := Tryz.isAgg196
 z75 := Tryz.sizeOf196
 v75 := Tryz.zeroValue196
 t76 := Tryz.underlying198
 a76 := Tryz.isAgg198
 z76 := Tryz.sizeOf198
 v76 := Tryz.zeroValue198
 t105 := Tryz.underlying222
 a105 := Tryz.isAgg222
 z105 := Tryz.sizeOf222
 v105 := Tryz.zeroValue222
 t119 := Tryz.underlying233
 a119 := Tryz.isAgg233
 z119 := Tryz.sizeOf233
 t127 := Tryz.underlying201
 a127 := Tryz.isAgg201
 z127 := Tryz.sizeOf201
 v127 := Tryz.zeroValue201
 t138 := Tryz.underlying235
 a138 := Tryz.isAgg235
 z138 := Tryz.sizeOf235
 v138 := Tryz.zeroValue235
 t139 := Tryz.underlying236
 a139 := Tryz.isAgg236
 z139 := Tryz.sizeOf236
 v139 := Tryz.zeroValue236
 t146 := Tryz.underlying244
 a146 := Tryz.isAgg244
 z146 := Tryz.sizeOf244
 v146 := Tryz.zeroValue244
 t164 := Tryz.underlying219
 a164 := Tryz.isAgg219
 z164 := Tryz.sizeOf219
 v164 := Tryz.zeroValue219
 g1 := by kernel_rfl
 g3 := by kernel_rfl
 g4 := by kernel_rfl }
theorem Tryz.Builder_Extra_155 : Builder.Extra Tryz.prog Tryz.lays155_ren := {
 sizeBuilder := by kernel_rfl
 liesBuilder := by kernel_rfl
 t5 := Tryz.underlying5
 a5 := Tryz.isAgg5
 z5 := Tryz.sizeOf5
 v5 := Tryz.zeroValue5
 infoByte := by kernel_rfl
 cellsByte := by kernel_rfl
 sizeByte := by kernel_rfl
 neB5 := by decide }
def Tryz.lays167_ren : Go.Shelf.Ren := ⟨fun | 166 => 217 | 167 => 216 | 240 => 232 | 276 => 247 | n => n, fun | 0 => 0 | 3 => 3 | 4 => 4 | 5 => 5 | 9 => 9 | 20 => 20 | 37 => 131 | 70 => 177 | 72 => 179 | 75 => 196 | 80 => 181 | 164 => 219 | n => n, fun | n => n⟩
theorem Tryz.lays167 : Go.Proofs.Lays.n167 Tryz.prog Tryz.lays167_ren := {
 mixed := by kernel_rfl
 f167 := Tryz.func216.trans (congrArg some (by kernel_rfl))
 f240 := Tryz.func232.trans (congrArg some (by kernel_rfl))
 f276 := Tryz.func247.trans (congrArg some (by kernel_rfl))
 t0 := Tryz.underlying0
 a0 := Tryz.isAgg0
 z0 := Tryz.sizeOf0
 v0 := Tryz.zeroValue0
 t4 := Tryz.underlying4
 a4 := Tryz.isAgg4
 z4 := Tryz.sizeOf4
 v4 := Tryz.zeroValue4
 t5 := Tryz.underlying5
 a5 := Tryz.isAgg5
 z5 := Tryz.sizeOf5
 v5 := Tryz.zeroValue5
 t9 := Tryz.underlying9
 a9 := Tryz.isAgg9
 z9 := Tryz.sizeOf9
 v9 := Tryz.zeroValue9
 t20 := Tryz.underlying20
 a20 := Tryz.isAgg20
 z20 := Tryz.sizeOf20
 v20 := Tryz.zeroValue20
 t37 := Tryz.underlying131
 a37 := Tryz.isAgg131
 z37 := Tryz.sizeOf131
 v37 := Tryz.zeroValue131
 t70 := Tryz.underlying177
 a70 := Tryz.isAgg177
 z70 := Tryz.sizeOf177
 v70 := Tryz.zeroValue177
 t72 := Tryz.underlying179
 a72 := Tryz.isAgg179
 z72 := Tryz.sizeOf179
 v72 := Tryz.zeroValue179
 t75 := Tryz.underlying196
 a75 := Tryz.isAgg196
 z75 := Tryz.sizeOf196
 v75 := Tryz.zeroValue196
 t164 := Tryz.underlying219
 a164 := Tryz.isAgg219
 z164 := Tryz.sizeOf219
 v164 := Tryz.zeroValue219
}
theorem Tryz.Builder_Extra_167 : Builder.Extra Tryz.prog Tryz.lays167_ren := {
 sizeBuilder := by kernel_rfl
 liesBuilder := by kernel_rfl
 t5 := Tryz.underlying5
 a5 := Tryz.isAgg5
 z5 := Tryz.sizeOf5
 v5 := Tryz.zeroValue5
 infoByte := by kernel_rfl
 cellsByte := by kernel_rfl
 sizeByte := by kernel_rfl
 neB5 := by decide
}
def Tryz.lays166_ren : Go.Shelf.Ren := ⟨fun | 166 => 217 | 167 => 216 | 240 => 232 | 276 => 247 | n => n, fun | 0 => 0 | 3 => 3 | 4 => 4 | 5 => 5 | 9 => 9 | 20 => 20 | 37 => 131 | 70 => 177 | 72 => 179 | 75 => 196 | 80 => 181 | 164 => 219 | n => n, fun | n => n⟩
theorem Tryz.lays166 : Go.Proofs.Lays.n166 Tryz.prog Tryz.lays166_ren := {
 mixed := by kernel_rfl
 f166 := Tryz.func217.trans (congrArg some (by kernel_rfl))
 f240 := Tryz.func232.trans (congrArg some (by kernel_rfl))
 f276 := Tryz.func247.trans (congrArg some (by kernel_rfl))
 t0 := Tryz.underlying0
 a0 := Tryz.isAgg0
 z0 := Tryz.sizeOf0
 v0 := Tryz.zeroValue0
 t3 := Tryz.underlying3
 a3 := Tryz.isAgg3
 z3 := Tryz.sizeOf3
 v3 := Tryz.zeroValue3
 t4 := Tryz.underlying4
 a4 := Tryz.isAgg4
 z4 := Tryz.sizeOf4
 v4 := Tryz.zeroValue4
 t9 := Tryz.underlying9
 a9 := Tryz.isAgg9
 z9 := Tryz.sizeOf9
 v9 := Tryz.zeroValue9
 t20 := Tryz.underlying20
 a20 := Tryz.isAgg20
 z20 := Tryz.sizeOf20
 v20 := Tryz.zeroValue20
 t37 := Tryz.underlying131
 a37 := Tryz.isAgg131
 z37 := Tryz.sizeOf131
 v37 := Tryz.zeroValue131
 t70 := Tryz.underlying177
 a70 := Tryz.isAgg177
 z70 := Tryz.sizeOf177
 v70 := Tryz.zeroValue177
 t72 := Tryz.underlying179
 a72 := Tryz.isAgg179
 z72 := Tryz.sizeOf179
 v72 := Tryz.zeroValue179
 t75 := Tryz.underlying196
 a75 := Tryz.isAgg196
 z75 := Tryz.sizeOf196
 v75 := Tryz.zeroValue196
 t164 := Tryz.underlying219
 a164 := Tryz.isAgg219
 z164 := Tryz.sizeOf219
 v164 := Tryz.zeroValue219
}
theorem Tryz.Builder_Extra_166 : Builder.Extra Tryz.prog Tryz.lays166_ren := {
 sizeBuilder := by kernel_rfl
 liesBuilder := by kernel_rfl
 t5 := Tryz.underlying5
 a5 := Tryz.isAgg5
 z5 := Tryz.sizeOf5
 v5 := Tryz.zeroValue5
 infoByte := by kernel_rfl
 cellsByte := by kernel_rfl
 sizeByte := by kernel_rfl
 neB5 := by decide
}
end Go.Proofs
