/- Stops and certificates are compared. Condition: a signature's 64 bytes, a key's 32. -/
import Derived.Test.YtodnkallpfkdiaaDoorCeI
set_option maxRecDepth 100000
set_option maxHeartbeats 16000000
set_option linter.unusedSimpArgs false
set_option linter.unusedVariables false
namespace Go.Proofs.YtodnkallpfkdiaaDoor.Ce
open Go.RowKit Lm Fp Cu Sl Sc
theorem part_int (t:TypeId) (d:TypeDesc) (hu : Tryd.prog.underlying t=some d) (hd:aggD d=false) (cs:Array Value) (off:Nat) (v:Value) (h:cs[off]? = some v) (w:World):(part t cs off).run Tryd.prog w = .ok v w:=by
 have ha:(isAgg t).run Tryd.prog w = .ok false w:=by
  unfold isAgg
  simp only [Sem.run_bind,run_underlying hu,Result.andThen_ok]
  cases d <;> simp_all [aggD]
 simp [part,ha,h]
theorem part_row (t:TypeId) (n:Nat) (hu:∃ d, Tryd.prog.underlying t=some d∧aggD d=true) (hs:∀ w,(sizeOf t).run Tryd.prog w = .ok n w) (cs:Array Value) (off:Nat) (w:World):(part t cs off).run Tryd.prog w = .ok (.agg (cs.extract off (off+n))) w:=by
 obtain ⟨d,hu,hd⟩:=hu
 have ha:(isAgg t).run Tryd.prog w = .ok true w:=by
  unfold isAgg
  simp only [Sem.run_bind,run_underlying hu,Result.andThen_ok]
  cases d <;> simp_all [aggD]
 simp [part,ha,hs]
theorem stop_ext (id:Int) (gs:List Int) (h:gs.length=64):(stopC id gs).extract 1 (1+64)=arr .u8 gs:=by
 apply Array.ext'
 simp [stopC,arr,Array.toList_extract,List.extract,h,List.take_of_length_le]
theorem cert_ext1 (id:Int) (ks gs:List Int) (hk:ks.length=32):(certC id ks gs).extract 1 (1+32)=arr .u8 ks:=by
 apply Array.ext'
 simp [certC,arr,Array.toList_extract,List.extract,hk,List.take_of_length_le]
theorem cert_ext2 (id:Int) (ks gs:List Int) (hk:ks.length=32) (h:gs.length=64):(certC id ks gs).extract 33 (33+64)=arr .u8 gs:=by
 apply Array.ext'
 simp [certC,arr,Array.toList_extract,List.extract,hk,h,List.take_of_length_le,List.drop_of_length_le]
theorem eq_stop (id:Int) (gs:List Int) (h:gs.length=64) (w:World):(Op.equalIn 10000 52 (.agg (stopC id gs)) (.agg (stopC id gs))).run Tryd.prog w = .ok true w:=by
 rw [run_equalIn_struct w 9999 52 _ _ Tryd.underlying52 (by kernel_rfl)]
 have hf:(Tryd.prog.fieldsOf 52).toList.map (fun f=>(f.name == "_", f.type,f.offset))=[(false, 3, 0),(false, 26, 1)]:=by kernel_rfl
 generalize (Tryd.prog.fieldsOf 52).toList=fs at hf ⊢
 obtain ⟨f0,r0,rfl,h0,hr⟩:=List.map_eq_cons_iff.1 hf
 obtain ⟨f1,r1,rfl,h1,hr⟩:=List.map_eq_cons_iff.1 hr
 obtain rfl:=List.map_eq_nil_iff.1 hr
 simp only [Prod.mk.injEq,beq_eq_false_iff_ne] at h0 h1
 obtain ⟨a1,a2,a3⟩:=h0
 obtain ⟨b1,b2,b3⟩:=h1
 have p0:=fun w=>part_int 3 _ Tryd.underlying3 rfl (stopC id gs) 0 _ (stopC_id id gs) w
 have p1:=fun w=>part_row 26 64 ⟨_, Tryd.underlying26, rfl⟩ (fun w=>by kernel_rfl) (stopC id gs) 1 w
 rw [stop_ext id gs h] at p1
 have e1:=fun w=>run_equalIn_arr w 9997 26 5 64 .u8 .u8 Tryd.underlying26 Tryd.underlying5 (fun w=>by kernel_rfl) gs gs h h
 have e0:=fun w=>run_equalIn_int w 9998 3 .i64 _ id id Tryd.underlying3
 simp [Op.eqFields,p0,p1,e0,e1,a1,a2,a3,b1,b2,b3]
theorem eq_cert (id:Int) (ks gs:List Int) (hk:ks.length=32) (h:gs.length=64) (w:World):(Op.equalIn 10000 28 (.agg (certC id ks gs)) (.agg (certC id ks gs))).run Tryd.prog w = .ok true w:=by
 rw [run_equalIn_struct w 9999 28 _ _ Tryd.underlying28 (by kernel_rfl)]
 have hf:(Tryd.prog.fieldsOf 28).toList.map (fun f=>(f.name == "_", f.type,f.offset))=[(false, 3, 0),(false, 23, 1),(false, 26, 33)]:=by kernel_rfl
 generalize (Tryd.prog.fieldsOf 28).toList=fs at hf ⊢
 obtain ⟨f0,r0,rfl,h0,hr⟩:=List.map_eq_cons_iff.1 hf
 obtain ⟨f1,r1,rfl,h1,hr⟩:=List.map_eq_cons_iff.1 hr
 obtain ⟨f2,r2,rfl,h2,hr⟩:=List.map_eq_cons_iff.1 hr
 obtain rfl:=List.map_eq_nil_iff.1 hr
 simp only [Prod.mk.injEq,beq_eq_false_iff_ne] at h0 h1 h2
 obtain ⟨a1,a2,a3⟩:=h0
 obtain ⟨b1,b2,b3⟩:=h1
 obtain ⟨c1,c2,c3⟩:=h2
 have p0:=fun w=>part_int 3 _ Tryd.underlying3 rfl (certC id ks gs) 0 _ (certC_id id ks gs) w
 have p1:=fun w=>part_row 23 32 ⟨_, Tryd.underlying23, rfl⟩ (fun w=>by kernel_rfl) (certC id ks gs) 1 w
 rw [cert_ext1 id ks gs hk] at p1
 have p2:=fun w=>part_row 26 64 ⟨_, Tryd.underlying26, rfl⟩ (fun w=>by kernel_rfl) (certC id ks gs) 33 w
 rw [cert_ext2 id ks gs hk h] at p2
 have e1:=fun w=>run_equalIn_arr w 9997 23 5 32 .u8 .u8 Tryd.underlying23 Tryd.underlying5 (fun w=>by kernel_rfl) ks ks hk hk
 have e2:=fun w=>run_equalIn_arr w 9997 26 5 64 .u8 .u8 Tryd.underlying26 Tryd.underlying5 (fun w=>by kernel_rfl) gs gs h h
 have e0:=fun w=>run_equalIn_int w 9998 3 .i64 _ id id Tryd.underlying3
 simp [Op.eqFields,p0,p1,p2,e0,e1,e2,a1,a2,a3,b1,b2,b3,c1,c2,c3]
/-- A comparison of two told structures that are one. -/
theorem exec_eql {o:Oper} {ρ:Operand→Value} {t ty:TypeId} {x y:Operand} {cs:Array Value} (ho:o.op = .binOp .eql t x y ty) (hm : Tryd.prog.eqGuardType Tryd.prog.depth t=false) (hx:ρ x = .agg cs) (hy:ρ y = .agg cs) (he:∀ w,(Op.equalIn 10000 t (.agg cs) (.agg cs)).run Tryd.prog w = .ok true w) (w:World):(execOp ρ o).run Tryd.prog w = .ok (.value (.bool true)) w:=by
 simp only [execOp,ho,hx,hy,Sem.run_bind,run_eqGuard_agg w .eql t x y _ _ hm,Result.andThen_ok,run_eql_struct,he]
 rfl
theorem exec_neq {o:Oper} {ρ:Operand→Value} {t ty:TypeId} {x y:Operand} {cs:Array Value} (ho:o.op = .binOp .neq t x y ty) (hm : Tryd.prog.eqGuardType Tryd.prog.depth t=false) (hx:ρ x = .agg cs) (hy:ρ y = .agg cs) (he:∀ w,(Op.equalIn 10000 t (.agg cs) (.agg cs)).run Tryd.prog w = .ok true w) (w:World):(execOp ρ o).run Tryd.prog w = .ok (.value (.bool false)) w:=by
 simp only [execOp,ho,hx,hy,Sem.run_bind,run_eqGuard_agg w .neq t x y _ _ hm,Result.andThen_ok,run_neq_struct,he]
 rfl
theorem exec_eqlL {o:Oper} {ρ:Operand→Value} {t ty:TypeId} {x y:Operand} {cs:Array Value} (ho:o.op = .binOp .eql t x y ty) (hm : Tryd.prog.eqGuardType Tryd.prog.depth t=false) (e:[x,y].map ρ=[.agg cs, .agg cs]) (he:∀ w,(Op.equalIn 10000 t (.agg cs) (.agg cs)).run Tryd.prog w = .ok true w) (w:World):(execOp ρ o).run Tryd.prog w = .ok (.value (.bool true)) w:=by
 simp only [List.map_cons,List.map_nil,List.cons.injEq,and_true] at e
 exact exec_eql ho hm e.1 e.2 he w
theorem exec_eqlb {o:Oper} {ρ:Operand→Value} {ty:TypeId} {x y:Operand} {b:Bool} (ho:o.op = .binOp .eql 4 x y ty) (e:[x,y].map ρ=[.bool b, .bool b]) (w:World):(execOp ρ o).run Tryd.prog w = .ok (.value (.bool true)) w:=by
 simp only [List.map_cons,List.map_nil,List.cons.injEq,and_true] at e
 simp only [execOp,ho,e.1,e.2]
 cases b <;> kernel_rfl
/-- A value of a certificate: its cells, the error beside it. -/
theorem certV_is (root key:Nat) (id:Int):∃ (XC:Array Value) (E:Int),certV root key id = .tuple #[.agg XC, .int .i64 E]∧XC.size=97∧XC.all (·.oneCell')=true∧(∀ w,(Op.equalIn 10000 28 (.agg XC) (.agg XC)).run Tryd.prog w = .ok true w)∧((E=0∧okI id=true∧XC=certC id (n32 key) (esign root (certT id key)))∨E=1∨E=21):=by
 have z1:(List.replicate 32 (0:Int)).length=32:=by simp
 have z2:(List.replicate 64 (0:Int)).length=64:=by simp
 unfold certV
 by_cases h1:okI id=true
 ·rw [if_pos h1]
  by_cases h2:(eread key).isSome=true
  ·rw [if_pos h2]
   exact ⟨_,0,rfl,certC_size (esign_len _ _) (n32_len _),certC_one _ _ _,eq_cert _ _ _ (n32_len _) (esign_len _ _), .inl ⟨rfl,h1,rfl⟩⟩
  ·rw [if_neg h2]
   exact ⟨_,21,rfl,certC_size z2 z1,certC_one _ _ _,eq_cert _ _ _ z1 z2, .inr (.inr rfl)⟩
 ·rw [if_neg h1]
  exact ⟨_,1,rfl,certC_size z2 z1,certC_one _ _ _,eq_cert _ _ _ z1 z2, .inr (.inl rfl)⟩
theorem stopV_is (root:Nat) (id:Int):∃ (XC:Array Value) (E:Int),stopV root id = .tuple #[.agg XC, .int .i64 E]∧XC.size=65∧XC.all (·.oneCell')=true∧(∀ w,(Op.equalIn 10000 52 (.agg XC) (.agg XC)).run Tryd.prog w = .ok true w)∧((E=0∧okI id=true∧XC=stopC id (esign root (stopT id)))∨E=1):=by
 have z2:(List.replicate 64 (0:Int)).length=64:=by simp
 unfold stopV
 by_cases h1:okI id=true
 ·rw [if_pos h1]
  exact ⟨_,0,rfl,stopC_size (esign_len _ _),stopC_one _ _,eq_stop _ _ (esign_len _ _), .inl ⟨rfl,h1,rfl⟩⟩
 ·rw [if_neg h1]
  exact ⟨_,1,rfl,stopC_size z2,stopC_one _ _,eq_stop _ _ z2, .inr rfl⟩
theorem eg_stop : Tryd.prog.eqGuardType Tryd.prog.depth 52 = false:=by kernel_rfl
theorem eg_cert : Tryd.prog.eqGuardType Tryd.prog.depth 28 = false:=by kernel_rfl
end Go.Proofs.YtodnkallpfkdiaaDoor.Ce
