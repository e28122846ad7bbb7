/- Regions told in symbols: Numbers of 32 bytes, read and written. The document's clamped: The document's Turn: A point's bytes are read back as that point. Condition: as each theorem says. -/

import Derived.Test.YthdgbgleklkaiaaDoorQa01
import Derived.Test.YthdgbgleklkaiaaDoorQa13
import Derived.Test.YthdgbgleklkaiaaDoorQa18
set_option linter.unusedSimpArgs false
set_option linter.unusedVariables false
set_option maxRecDepth 100000
set_option maxHeartbeats 16000000
namespace Go.Proofs.YthdgbgleklkaiaaDoor
open Go.RowKit
def gB (l:List Oper) (sy:List Sy) (i:Nat) (o:Oper):Option Bool:=match o.guard with
 | some (j,true)=>if ((Jc l).getD i 0).testBit j && ((l[j]?).bind (·.dst)).isSome then (match ((sy[j]?).map Sy.cl:Option CL) with|some (CL.v (SV.c (Value.bool c)))=>some c|_=>none) else none
 | _=>none
section
variable {P:Program} {Q:Exit→Act→World→Prop} {T:Nat→Prop} {w:World} {l:List Oper} {old:List (Nat×OP)} {sy:List Sy} {pt:List Put} {a:Act} {r:List Oper} {i:Nat} {o:Oper}
theorem gB_is {f:Fill} {b:Act} {u:World} (hJ:SJ T w old sy pt f u) (hc:Closed l f) (hu:∀ j,dz l i j=true→(f j).isSome=true) (iW:uz l f a b) {c:Bool} (h:gB l sy i o=some c):Region.wanted o (yielded l.toArray b.tmps)=c:=by
 unfold gB at h
 split at h
 ·rename_i j hg
  split at h
  ·rename_i h1
   simp only [Bool.and_eq_true] at h1
   obtain ⟨h1,h2⟩:=h1
   obtain ⟨s,hs⟩:=sE h2
   split at h
   ·rename_i c' hcl
    cases h
    obtain ⟨v,hv⟩:=sE ((nO h1).up hc hu)
    obtain ⟨s',hs',hok⟩:=hJ.val j v hv
    rw [hs'] at hcl
    simp only [Option.map_some,Option.some.injEq] at hcl
    rw [hcl] at hok
    have hok:v = .bool c:=hok
    have e:b.eval (.tmp s)=v:=iW.val j s hs hv
    rw [hok] at e
    have h3:b.tmps[s]? = some (.bool c):=by
     have h4:b.tmps.getD s undef = .bool c:=e
     rw [Array.getD_eq_getD_getElem?] at h4
     cases h5:b.tmps[s]? with
     | none=>rw [h5] at h4;cases h4
     | some v=>rw [h5] at h4;rw [show v = .bool c from h4]
    have h6:yielded l.toArray b.tmps j=some c:=by
     unfold yielded
     rw [show (l.toArray[j]?).bind (·.dst)=some s by simpa using hs]
     simp [h3]
    cases c <;> simp [Region.wanted,hg,h6]
   ·cases h
  ·cases h
 ·cases h
theorem oG (hr:dR P Q l T w old sy pt a ({ o with guard:=none } :: r) i) (hg:gB l sy i o=some true:=by kernel_rfl):dR P Q l T w old sy pt a (o :: r) i :=
 ⟨fun f b u K hJ hf hc hu iW hK=>by
  have h:=hr.1 f b u K hJ hf hc hu iW hK
  rw [if_pos (fu rfl)] at h
  rw [if_pos (gB_is hJ hc hu iW hg)]
  exact h,hr.2⟩
abbrev Yw (S:World→Value→Prop) (h:∀ u u' v,Below u.heap.size u u'→S u v→S u' v):Sy:=⟨.w S h,none⟩
theorem SyV (hW:uL l sy=true) (hr:dR P Q l T w old sy pt a r (i+1)) {v:Value} (h:∀ (f:Fill) (u:World),Holds T w u (dQ old (sy.map Sy.sp) pt f)→Closed l f→f i=none→(∀ j,dz l i j=true→(f j).isSome=true)→(execOp (sev l sy a f) o).run P u = .ok (.value v) u)
  (he:∀ {ρ ρ':Operand→Value},(∀ x∈o.op.operands.toList,ρ x=ρ' x)→execOp ρ o=execOp ρ' o) (hrd:o.op.operands.toList.all (iw l i)=true:=by kernel_rfl) (hg:o.guard=none:=by rfl) (hs:sy[i]? = some (Yv v):=by rfl) (hq:gH sy pt i=true:=by kernel_rfl):dR P Q l T w old sy pt a (o :: r) i :=
 .cons (DC hW hg hs hq rfl fun f b u hJ hc hf hu iW=>⟨v,by
  rw [he fun x hx=>jg hJ hc hu iW (List.all_eq_true.1 hrd x hx)]
  exact h f u hJ.mem hc hf hu,rfl⟩) hr
theorem SyCw (hW:uL l sy=true) (hr:dR P Q l T w old sy pt a r (i+1)) {F:FuncId} {xs:List Operand} {ts:Array TypeId} {vs:List Value} {S:World→Value→Prop} {hS:∀ u u' v,Below u.heap.size u u'→S u v→S u' v} (h:∀ u,Kept T w u→Calls P F vs.toArray u fun e w'=>∃ v,e = .returned v∧S w' v∧Below u.heap.size u w')
  (ho:o.op = .call { callee := .value (.func F),args:=xs.toArray,argTypes:=ts }:=by rfl) (hg:o.guard=none:=by rfl) (hs:sy[i]? = some (Yw S hS):=by rfl) (hq:gH sy pt i=true:=by kernel_rfl) (hrd:xs.all (iw l i)=true:=by kernel_rfl)
  (hF:∀ (args:Array Value) (u:World),(callFunc F args).run P u = .ok (.enter F args) u:=by intro args u;kernel_rfl) (hv:∀ f,xs.map (sev l sy a f)=vs:=by intro f;first|rfl|kernel_rfl):dR P Q l T w old sy pt a (o :: r) i :=
 .cons (yI F xs ts hW hg hs hq ho hrd hF fun f u hJ _=>by
  rw [hv]
  refine (h u hJ.mem.keep).mono ?_
  rintro e w' ⟨v,rfl,hw,hb⟩
  exact ⟨v,rfl,trivial,hb,fun S' h' e=>by cases e;exact hw⟩) hr
def noneB (l:List Oper) (pt:List Put) (i:Nat):Bool:=pt.all fun e=>know l i e.1 == some false || e.1 == i
theorem U0 {f:Fill} (hc:Closed l f) (hi:f i=none) (hu:∀ j,dz l i j=true→(f j).isSome=true) (h:noneB l pt i=true):∀ e∈pt,f e.1=none:=by
 intro e he
 have h1:=List.all_eq_true.1 h e he
 simp only [Bool.or_eq_true,beq_iff_eq] at h1
 rcases h1 with h1|h1
 ·have:=Ep hc hi hu h1
  cases hx:f e.1 with
  | none=>rfl
  | some v=>rw [hx] at this;cases this
 ·rw [h1,hi]
theorem SyCv (hW:uL l sy=true) (hr:dR P Q l T w old sy pt a r (i+1)) {F:FuncId} {xs:List Operand} {x:Operand} {ts:Array TypeId} {vs:List Value} {V:Value} {S:World→Value→Prop} {hS:∀ u u' v,Below u.heap.size u u'→S u v→S u' v} (j:Nat)
  (h:∀ u v,Kept T w u→S u v→Calls P F (vs ++ [v]).toArray u fun e w'=>e = .returned V∧Below u.heap.size u w') (hj:sy[j]? = some (Yw S hS):=by rfl) (ha:((Jc l).getD i 0).testBit j=true:=by kernel_rfl) (hn:noneB l pt i=true:=by kernel_rfl)
  (ho:o.op = .call { callee := .value (.func F),args:=(xs ++ [x]).toArray,argTypes:=ts }:=by rfl) (hg:o.guard=none:=by rfl) (hs:sy[i]? = some (Yv V):=by rfl) (hq:gH sy pt i=true:=by kernel_rfl) (hrd:(xs ++ [x]).all (iw l i)=true:=by kernel_rfl)
  (hF:∀ (args:Array Value) (u:World),(callFunc F args).run P u = .ok (.enter F args) u:=by intro args u;kernel_rfl) (hv:∀ f,xs.map (sev l sy a f)=vs:=by intro f;first|rfl|kernel_rfl) (hx:∀ f,sev l sy a f x=(f j).getD undef:=by intro f;first|rfl|kernel_rfl):dR P Q l T w old sy pt a (o :: r) i :=
 .cons (fun f b u K hJ hf hc hu iW hK=>by
  have hz:(xs ++ [x]).map b.eval=vs ++ [(f j).getD undef]:=by
   rw [← hv f,← hx f,List.map_append]
   have hr':=List.all_eq_true.1 hrd
   congr 1
   ·exact List.map_congr_left fun y hy=>jg hJ hc hu iW (hr' y (List.mem_append_left _ hy))
   ·simp only [List.map_cons,List.map_nil]
    rw [jg hJ hc hu iW (hr' x (by simp))]
  obtain ⟨v,hvj⟩:=sE ((nO ha).up hc hu)
  have hSv:S u v:=hJ.wld j v _ S hS hvj hj rfl (U0 hc hf hu hn)
  rw [hvj,Option.getD_some] at hz
  rw [if_pos (fu hg)]
  have h0:=fA (P:=P) (Q:=Q) (ops := #[]) (o:=o) (b:=b) (u:=u) (K:=K) (E:=True) hg F (xs ++ [x]) ts _ ho hz hF ?_
  ·rwa [if_pos (by simp [Region.wanted,hg])] at h0
  ·refine Calls.mono (h u v hJ.mem.keep hSv) ?_
   rintro e w' ⟨rfl,hb⟩
   exact ⟨V,rfl,hK V w' (hJ.upd hW hc hf hu hs rfl (by rw [kM hf hq];exact hJ.mem.below hb) (fun _=>hb) (CL.no rfl))⟩) hr
def Mj:TypeDesc→Bool
 | .struct _=>true
 | .array _ _=>true
 | _=>false
theorem BD {o:Oper} {ev:Operand→Value} {u:World} {ty:TypeId} {x:Operand} {A:Addr} {v:Value} {d:TypeDesc} (ho:o.op = .load ty x) (hx:ev x = .pointer (some A)) (hd:Mj d=false) (hu:P.underlying ty=some d) (hc:u.cell? A=some v):(execOp ev o).run P u = .ok (.value v) u:=by
 have ha:(isAgg ty).run P u = .ok false u:=by
  unfold isAgg
  simp only [Sem.run_bind,run_underlying hu,Result.andThen_ok]
  cases d <;> simp_all [Mj]
 have hl:(load A).run P u = .ok v u:=by simp [load,Sem.run,hc]
 simp [execOp,ho,hx,Instr.loadAt,Instr.sureAddr,asAddr,loadVar,ha,hl,Sem.run_bind,Result.andThen]
theorem Iz (hW:uL l sy=true) (hr:dR P Q l T w old sy pt a r (i+1)) {ty:TypeId} {x:Operand} {v:Value} {d:TypeDesc} (κ off:Nat) (cs:Array Value) (t:TypeId) (hcs:cs[off]? = some v) (hd:Mj d=false) (hu:P.underlying ty=some d)
  (ho:o.op = .load ty x:=by rfl) (hg:o.guard=none:=by rfl) (hs:sy[i]? = some (Yv v):=by rfl) (hq:gH sy pt i=true:=by kernel_rfl) (hrd:iw l i x=true:=by kernel_rfl) (hl:tK l old sy i κ=true:=by kernel_rfl)
  (hx:∀ f,sev l sy a f x = .pointer (some ⟨adr old f κ,off,none⟩):=by intro f;first|rfl|kernel_rfl) (hc:cont l old sy pt i κ=some (Bp cs t):=by kernel_rfl):dR P Q l T w old sy pt a (o :: r) i :=
 .cons (DC hW hg hs hq rfl fun f b u hJ hc' hf hu' iW=>⟨v,by
  obtain ⟨⟨ob,I9,hpo⟩, -⟩:=hJ.mem.mem κ _ _ (qy hJ hc' hf hu' hc hl)
  have hpo:ob = .cells cs t (0,0):=hpo
  subst hpo
  exact BD ho ((jg hJ hc' hu' iW hrd).trans (hx f)) hd hu (by rw [aG I9,hcs]),rfl⟩) hr
theorem SyD (hW:uL l sy=true) (hr:dR P Q l T w old sy pt a r (i+1)) {F:FuncId} {xs:List Operand} {ts:Array TypeId} {vs:List Value} {V:Value} (h:∀ u,Kept T w u→Calls P F vs.toArray u fun e w'=>e = .returned V∧Below u.heap.size u w')
  (ho:o.op = .call { callee := .value (.func F),args:=xs.toArray,argTypes:=ts }:=by rfl) (hg:o.guard=none:=by rfl) (hs:sy[i]? = some (Yv V):=by rfl) (hq:gH sy pt i=true:=by kernel_rfl) (hrd:xs.all (iw l i)=true:=by kernel_rfl)
  (hF:∀ (args:Array Value) (u:World),(callFunc F args).run P u = .ok (.enter F args) u:=by intro args u;kernel_rfl) (hv:∀ f,xs.map (sev l sy a f)=vs:=by intro f;first|rfl|kernel_rfl):dR P Q l T w old sy pt a (o :: r) i :=
 .cons (yI F xs ts hW hg hs hq ho hrd hF fun f u hJ _=>by
  rw [hv]
  refine (h u hJ.mem.keep).mono ?_
  rintro e w' ⟨rfl,hb⟩
  exact ⟨V,rfl,rfl,hb,CL.no rfl⟩) hr
theorem SySa (hW:uL l sy=true) (hr:dR P Q l T w old sy pt a r (i+1)) {ty:TypeId} {x y:Operand} {n:Nat} {ds:Array Value} (κ:Nat) (cs:Array Value) (t:TypeId) (hi:(P.info? ty).map (·.size)=some n) (hcs:cs.size=n) (hds:ds.size=n) (hone:ds.all (·.oneCell')=true)
  (hpt:nA (know l i) i κ pt=some (Bp ds t):=by kernel_rfl) (ho:o.op = .store ty x y:=by rfl) (hg:o.guard=none:=by rfl) (hs:sy[i]? = some Y0:=by rfl) (hrd:(iw l i x && iw l i y)=true:=by kernel_rfl) (hl:tK l old sy i κ=true:=by kernel_rfl)
  (hx:∀ f,sev l sy a f x = .pointer (some ⟨adr old f κ,0,none⟩):=by intro f;first|rfl|kernel_rfl) (hy:∀ f,sev l sy a f y = .agg ds:=by intro f;first|rfl|kernel_rfl) (hc:cont l old sy pt i κ=some (Bp cs t):=by kernel_rfl):dR P Q l T w old sy pt a (o :: r) i :=
 .cons (Gm κ n hW hg hs rfl rfl ho hrd hl hx hc hpt (fun ob h=>⟨cs,h,hcs⟩) hi fun f _=>⟨ds,hy f,hds,hone,rfl⟩) hr
end
end Go.Proofs.YthdgbgleklkaiaaDoor
namespace Go.Proofs.YthdgbgleklkaiaaDoor.Rd
open Go.RowKit Lm Fp Cu
theorem tZ {P:Program} {o:Oper} {ev:Operand→Value} {w:World} (t ty:TypeId) (e:TypeId) (x y:Operand) (ho:o.op = .binOp .neq t x y ty) (n:Nat) (k k':IntKind)
  (ht:P.underlying t=some (.array n e)) (he:P.underlying e=some (.int k')) (hsz:∀ w,(sizeOf e).run P w = .ok 1 w) (hm:P.eqGuardType P.depth t=false)
  (xs ys:List Int) (hx:ev x = .agg (arr k xs)) (hy:ev y = .agg (arr k ys)) (lx:xs.length=n) (ly:ys.length=n) (b:Bool) (hb:(!(xs == ys))=b) :
  (execOp ev o).run P w = .ok (.value (.bool b)) w:=by
 simp only [execOp,ho,hx,hy,Sem.run_bind,run_eqGuard_agg w .neq t x y _ _ hm,Result.andThen_ok,Gu w t e n k k' ht he hsz xs ys lx ly,hb]
 rfl
theorem JO:p < 256 ^ 32:=by decide +kernel
theorem yt (v:Nat) (h:v < 256 ^ 32):val 256 (bD 256 32 v)=v:=by rw [eT,Nat.mod_eq_of_lt h]
theorem J8 (v:Nat) (w:World) (h:v < 256 ^ 32):Calls Tryd.prog 76 #[.agg (arr .u8 (aW (bD 256 32 v)))] w fun e w'=>∃ zs,e = .returned (.agg (arr .i64 zs))∧El zs (v % p)∧Below w.heap.size w w':=by
 have:=in_any (bD 256 32 v) w (aI _ _ _) (gV 256 (by decide) _ _)
 rwa [yt v h] at this
theorem R3 (v:Nat) (w:World) (h:v < 256 ^ 32):Calls Tryd.prog 81 #[.agg (arr .u8 (aW (bD 256 32 v)))] w fun e w'=>e = .returned (.agg (arr .u8 (aW (bD 256 32 (v % p)))))∧Below w.heap.size w w':=by
 have hi:=fun w=>J8 v w h
 obtain ⟨ns,hns⟩:∃ x,x=aW (bD 256 32 v):=⟨_,rfl⟩
 have xI:Hid (ns.length=32):=Lib.hid (by rw [hns,aH,aI])
 rw [← hns] at hi ⊢
 have ho:=fun xs w (h:El xs (v % p))=>nD xs (v % p) w h
 obtain ⟨os,hos⟩:∃ x,x=aW (bD 256 32 (v % p)):=⟨_,rfl⟩
 have HOL:Hid (os.length=32):=Lib.hid (by rw [hos,aH,aI])
 have HOS:=Lib.hid hos
 rw [← hos] at ho
 have HI:=Lib.hid hi
 have HO:=Lib.hid ho
 obtain ⟨zn,hzn⟩:∃ zs:List Int,zs=List.replicate 32 0:=⟨_,rfl⟩
 have dx:Hid (∀ w,(zeroValue 23).run Tryd.prog w = .ok (.agg (arr .u8 zn)) w):=Lib.hid (by intro w;rw [hzn];exact zero_num w)
 have cB:Hid (zn.length=32):=Lib.hid (by rw [hzn];rfl)
 have bN:=Lib.hid (bM.two w (arr .u8 ns) (arr .u8 zn) 23 23)
 clear hzn hi ho hns hos
 go_enter Tryd.func81, Tryd.ntmps81
 go_wp2_with (first|((with_reducible refine aS 2 ?_);refine aj rfl 23 rfl _ (dx.out _) ?_)|((with_reducible refine aS 3 ?_);refine ak rfl 23 _ rfl (w.heap.size) 0 _ 23 (0,0) _ (bN.out.get 0 rfl) rfl .u8 ns (au _ _) Tryd.underlying23 rfl (bU xI.out) ?_)|((with_reducible show Calls _ 76 _ _ _);go_at_call 76; refine (HI.out _).mono ?_;rintro e w1 ⟨z1,rfl,h1,hb1⟩;have HZ1:=Lib.hid h1;have HB1:=Lib.hid (bN.out.kept hb1);clear h1 hb1)|((with_reducible show Calls _ 67 _ _ _);go_at_call 67; refine (HO.out _ _ HZ1.out).mono ?_;rintro e w2 ⟨rfl,hb2⟩;have HB2:=Lib.hid (HB1.out.kept hb2);clear hb2)|((with_reducible refine aT 2 ?_);refine ah rfl 23 _ _ rfl (w.heap.size+1) _ _ 23 (HB2.out.get 1 rfl) rfl rfl (ay _ _ HOL.out cB.out) (bE HOL.out) (av _ _) ?_;intro w3 hb3 hk3 hz3;have HB3:=Lib.hid (HB2.out.put 1 rfl hk3 hb3);clear hb3 hk3 hz3))
 (try simp only [Exit.then])
 refine bodyPost_ret (results_cell_row rfl _ _ (w.heap.size+1) 23 _ (0,0) _ rfl (HB3.out.get 1 rfl) Tryd.underlying23 rfl (bE HOL.out)) rfl ?_
 exact ⟨by rw [HOS.out],HB3.out.below⟩
end Go.Proofs.YthdgbgleklkaiaaDoor.Rd
namespace Go.Proofs.YthdgbgleklkaiaaDoor.Rd
open Go.RowKit Lm Fp Cu
theorem wO (v:Nat) (w:World) (hv:v < 2 ^ 256) :
  Calls Tryd.prog 65 #[.agg (arr .u8 (aW (bD 256 32 v)))] w fun e w'=>e = .returned (.agg (arr .u8 (aW (bD 256 32 (clamp v)))))∧Below w.heap.size w w':=by
 have hcs:=RQ v hv
 obtain ⟨t1,t2⟩:=oK v hv
 have l1:=zk v
 have g0:(aW (bD 256 32 v)).getD 0 0=((v % 256:Nat):Int):=by rw [bG,l1]
 have Lv:(aW (bD 256 32 v)).getD 31 0=((v / 256 ^ 31:Nat):Int):=by rw [bG,t1]
 have a0:=and248 (v % 256) (Nat.mod_lt _ (by decide))
 have a1:=or64 (v / 256 ^ 31) t2
 have hfin:((aW (bD 256 32 v)).set 0 ((v % 256 / 8 * 8:Nat):Int)).set 31 ((v / 256 ^ 31 % 64+64:Nat):Int)=aW (bD 256 32 (clamp v)):=by rw [← dn,← dn,hcs]
 obtain ⟨ns,hns⟩:∃ x,x=aW (bD 256 32 v):=⟨_,rfl⟩
 obtain ⟨rs,hrs⟩:∃ x,x=aW (bD 256 32 (clamp v)):=⟨_,rfl⟩
 have xI:Hid (ns.length=32):=Lib.hid (by rw [hns,aH,aI])
 have iK:Hid (rs.length=32):=Lib.hid (by rw [hrs,aH,aI])
 rw [← hns] at g0 Lv hfin ⊢
 rw [← hrs] at hfin
 generalize v / 256 ^ 31=t at Lv a1 hfin t2
 generalize hx:v % 256=x at g0 a0 hfin
 have hx2:x < 256:=by omega
 obtain ⟨zn,hzn⟩:∃ zs:List Int,zs=List.replicate 32 0:=⟨_,rfl⟩
 have dx:Hid (∀ w,(zeroValue 23).run Tryd.prog w = .ok (.agg (arr .u8 zn)) w):=Lib.hid (by intro w;rw [hzn];exact zero_num w)
 have cB:Hid (zn.length=32):=Lib.hid (by rw [hzn];rfl)
 have bN:=Lib.hid (bM.two w (arr .u8 ns) (arr .u8 zn) 23 23)
 have e2:((arr .u8 ns).setIfInBounds 0 (.int .u8 (bits .and .u8 (x:Int) 248))).setIfInBounds 31 (.int .u8 (bits .or .u8 (bits .and .u8 (t:Int) 127) 64))=arr .u8 rs:=by rw [a0,a1,aY,aY,hfin]
 have HE2:=Lib.hid e2
 have EW:=Lib.hid hrs
 have HG0:=Lib.hid g0
 have HG31:=Lib.hid Lv
 clear hzn hns hrs hcs t1 l1 g0 Lv a0 a1 hfin e2 hx
 go_enter Tryd.func65, Tryd.ntmps65
 go_upto_region 1 with (first|((with_reducible refine aS 2 ?_);refine aj rfl 23 rfl _ (dx.out _) ?_))
 (try simp only [World.size_alloc,Act.put,sA,sZ,sS])
 generalize ((w.alloc (.cells (arr .u8 ns) 23)).alloc (.cells (arr .u8 zn) 23))=wb at bN ⊢
 have q0:=aN (bN.out.get 0 rfl) 0 (by rw [xI.out];decide)
 have q1:=aN (bN.out.get 0 rfl) 31 (by rw [xI.out];decide)
 have q2:=aC (bN.out.get 0 rfl) 0
 have q3:=aC (bN.out.get 0 rfl) 31
 rw [HG0.out] at q0
 rw [HG31.out] at q1
 have hb1:=(bN.out.cell 0 rfl 0 (.int .u8 (bits .and .u8 (x:Int) 248))).cell 0 rfl 31 (.int .u8 (bits .or .u8 (bits .and .u8 (t:Int) 127) 64))
 have gY:=Lib.hid (hb1.cast (l':=[(w.heap.size,arr .u8 rs, 23),(w.heap.size+1,arr .u8 zn, 23)]) (by rw [← HE2.out];rfl))
 clear hb1
 go_upto_region 3 with fail
 go_wp2_with (first|((with_reducible refine aS 12 ?_);refine ak rfl 23 _ rfl (w.heap.size) 0 _ 23 (0,0) _ (gY.out.get 0 rfl) rfl .u8 rs (au _ _) Tryd.underlying23 rfl (bU iK.out) ?_)|((with_reducible refine aT 2 ?_);refine ah rfl 23 _ _ rfl (w.heap.size+1) _ _ 23 (gY.out.get 1 rfl) rfl rfl (ay _ _ iK.out cB.out) (bE iK.out) (av _ _) ?_;intro w3 hb3 hk3 hz3;have HB3:=Lib.hid (gY.out.put 1 rfl hk3 hb3);clear hb3 hk3 hz3))
 (try simp only [Exit.then])
 refine bodyPost_ret (results_cell_row rfl _ _ (w.heap.size+1) 23 _ (0,0) _ rfl (HB3.out.get 1 rfl) Tryd.underlying23 rfl (bE iK.out)) rfl ?_
 exact ⟨by rw [EW.out],HB3.out.below⟩
end Go.Proofs.YthdgbgleklkaiaaDoor.Rd
namespace Go.Proofs.YthdgbgleklkaiaaDoor.Ch
open Go.RowKit
theorem aV.row {w:World} {B:Nat} {va:Option Addr} {n vc:Nat} {xs:List Int} (h:aV w B (.slice va n vc) xs) (hp:0 < xs.length) :
  ∃ g sp,va=some ⟨g,0,none⟩∧B≤g∧w.heap[g]? = some (.cells (jK xs sp) 5 (0,0))∧n=xs.length∧vc=xs.length+sp.length∧vc≤maxLen:=by
 have hv:Value.slice va n vc ≠ .slice none 0 0:=by
  intro e
  obtain ⟨sa,c,hf, -⟩:=h.form
  rw [e] at hf
  injection hf with _ h2 _
  omega
 obtain ⟨g,cap,sp,e,hB,hg,hc,hm⟩:=jQ.JQ h hv
 cases e
 exact ⟨g,sp,rfl,hB,hg,rfl,hc,hm⟩
theorem Qx (sa:Option Addr) (n cap:Nat) (xs key aK:List Int) (c:Int) (w:World) (hs:Src w sa n xs) (hk:key.length=32) (hn:aK.length=12) (bk:bytes key) (bn:bytes aK) (hln:n≤1099511627776) (hpos:0 < n) :
  Calls Tryd.prog 72 #[.agg (arr .u8 key), .int .i64 c, .agg (arr .u8 aK), .slice sa n cap] w fun e w'=>∃ v,e = .returned v∧aV w' w.heap.size v (turn key c aK xs)∧Below w.heap.size w w':=by
 have z64:=zero64
 have hand:=Mh c
 have e1:∀ o,(w.alloc o).heap.size=w.heap.size+1:=by simp
 have e2:∀ o p,((w.alloc o).alloc p).heap.size=w.heap.size+1+1:=by simp
 obtain ⟨wA,hwA⟩:∃ wA,wA=(w.alloc (.cells (arr .u8 key) 23)).alloc (.cells (arr .u8 aK) 108):=⟨_,rfl⟩
 have a1:wA.heap[w.heap.size]? = some (.cells (arr .u8 key) 23 (0,0)):=by rw [hwA];exact bf (aL w _) _
 have a2:wA.heap[w.heap.size+1]? = some (.cells (arr .u8 aK) 108 (0,0)):=by rw [hwA,← e1 (.cells (arr .u8 key) 23)];exact aL _ _
 have a3:Below w.heap.size w wA:=by rw [hwA];exact ((Below.refl _ w).alloc (Nat.le_refl _) _).alloc (by rw [e1];omega) _
 have a4:wA.heap.size=w.heap.size+1+1:=by rw [hwA,e2]
 obtain ⟨T,hT⟩:∃ T,T=turn key c aK xs:=⟨_,rfl⟩
 have hTl:T.length=n:=by rw [hT,yx];exact hs.len
 have hTa:∀ i,i < n→T.getD i 0=bits .xor .u8 (xs.getD i 0) ((block key ((c+(i / 64:Nat)) % 4294967296) aK).getD (i % 64) 0):=fun i hi=>by rw [hT];exact turn_at _ _ _ _ _ (by rw [hs.len];exact hi)
 have p1:((arr .u8 key).toList.drop 0).take key.length=key.map (Value.int .u8):=by rw [List.drop_zero,bQ,List.take_of_length_le (by simp)]
 have p2:((arr .u8 aK).toList.drop 0).take aK.length=aK.map (Value.int .u8):=by rw [List.drop_zero,bQ,List.take_of_length_le (by simp)]
 have z1:(Tryd.prog.info? 23).map (·.size)=some key.length:=by rw [hk];exact qV
 have z2:(Tryd.prog.info? 108).map (·.size)=some aK.length:=by rw [hn];exact uT
 have hsA:=hs.below (a3.mono (Nat.le_refl _))
 have iG:=Lib.hid hs.len
 have A1:=Lib.hid a1
 have A2:=Lib.hid a2
 have A3:=Lib.hid a3
 have A4:=Lib.hid a4
 have HWA:=Lib.hid hwA
 have HTA:=Lib.hid hTa
 have HT:=Lib.hid hT
 have uE:=Lib.hid hTl
 have HS:=Lib.hid hsA
 have HK:=Lib.hid hk
 have HN:=Lib.hid hn
 have BK:=Lib.hid bk
 have BN:=Lib.hid bn
 have P1:=Lib.hid p1
 have P2:=Lib.hid p2
 have Z1:=Lib.hid z1
 have Z2:=Lib.hid z2
 have c1:0≤c % 4294967296:=by omega
 have c2:c % 4294967296≤4294967295:=by omega
 have c3:∀ j:Nat,(c % 4294967296+(j:Int) / 64) % 4294967296=(c+(j / 64:Nat)) % 4294967296:=by intro j;omega
 have C3:=Lib.hid c3
 clear hwA hT hTl hs hk hn bk bn p1 p2 z1 z2 hTa hsA a1 a2 a3 a4 e1 e2 c3
 generalize hcc:c % 4294967296=cc at hand c1 c2 C3
 clear hcc
 go_enter Tryd.func72, Tryd.ntmps72
 go_wp2_with (first|((with_reducible refine aS 14 ?_);rw [← HWA.out];refine aO rfl (.const (.slice none 0 0)) (.tmp 13) rfl (w.heap.size+1+1) (.slice none 0 0) [] rfl (aV.nil _ _) sa n cap xs rfl HS.out (by simp;omega) (by rw [A4.out];omega) ?_;intro v1 w1 ho1 hg1 hn1 hb1;have hbel:=aQ (w0:=wA) (aV.nil wA (w.heap.size+1+1)) hg1 (Below.refl _ _) (by rw [A4.out];omega);obtain ⟨va,vc,hv, -⟩:=ho1.form;rw [List.nil_append,iG.out] at hv;rw [List.nil_append] at ho1;subst hv;obtain ⟨g,sp,rfl,hBg,Ja, -, hvc,hvm⟩:=aV.row ho1 (by rw [iG.out];exact hpos);have mh:=Lib.hid hbel;have PX:=Lib.hid Ja;have HBG:=Lib.hid hBg;have HVC:=Lib.hid (And.intro hvc hvm);clear ho1 hg1 hn1 hb1 hbel hBg Ja hvc hvm)|((with_reducible refine aS 11 ?_);refine aj rfl 26 rfl _ (zero64 _) ?_))
 have HB0:Hid (Tk w (w1.alloc (.cells (arr .u8 (List.replicate 64 0)) 26)) key aK g w1.heap.size sp xs (List.replicate 64 0)):=Lib.hid (by
  have hl:=aR PX.out
  have hg:=HBG.out
  refine ⟨bf (Below.blk mh.out A1.out (by omega)) _,bf (Below.blk mh.out A2.out (by omega)) _,bf PX.out _,aL _ _,?_,by omega,by omega,by omega⟩
  have:=A3.out.trans (mh.out.mono (by omega))
  exact this.alloc this.size _)
 clear mh PX A1 A2 A3 A4 HWA HS
 generalize w1.heap.size=ob at HB0 ⊢
 clear hand
 go_loopw [12] (fun i wr=>∃ (j:Nat) (st:List Int),j≤n∧i = .int .i64 j∧Begun key c aK st j∧Tk w wr key aK g ob sp (T.take j ++ xs.drop j) st) (fun i _=>n - (intOf i).toNat)
 case atStart=>exact ⟨0,List.replicate 64 0,Nat.zero_le _,rfl,⟨by simp,fun h=>absurd rfl h⟩,by simpa using HB0.out⟩
 clear HB0
 case round =>
 obtain ⟨j,st,hj,rfl,hbg,hB⟩:=hrel
 by_cases hlt:j < n
 ·have HB:=Lib.hid hB
  have HBGN:=Lib.hid hbg
  have HX:=Lib.hid (HTA.out j hlt)
  have HL:=Lib.hid (mix_len T xs j n uE.out iG.out (by omega))
  clear hB hbg
  have HG:=Lib.hid (mix_get T xs j n uE.out iG.out hlt)
  generalize xs.getD j 0=x at HX HG
  by_cases h64:j % 64=0
  ·have h64':(j:Int) % 64=0:=by omega
   go_wp2_with (first|((with_reducible refine aS 26 ?_);refine ak rfl 23 _ rfl w.heap.size 0 _ 23 (0,0) _ HB.out.bk rfl .u8 key P1.out Tryd.underlying23 rfl Z1.out ?_)|((with_reducible refine aS 31 ?_);refine ak rfl 108 _ rfl (w.heap.size+1) 0 _ 108 (0,0) _ HB.out.bn rfl .u8 aK P2.out Tryd.underlying108 rfl Z2.out ?_)|(go_at_call 89; refine (ny key aK (cc+(j:Int) / 64) wr HK.out HN.out BK.out BN.out).mono ?_;rintro e w1 ⟨rfl,hb1⟩;have HB1:=Lib.hid (HB.out.after hb1);clear hb1)|((with_reducible show wpList _ _ _ (Oper.mk none (.store _ (.tmp 11) _) _ _ _ _ :: _) _ _);refine ah rfl 26 _ _ rfl ob _ _ 26 HB1.out.bs rfl rfl (by rw [aF,aF,qA,HBGN.out.1]) (by rw [aF,qA];exact Uh) (av _ _) ?_;intro w2 hb2 hk2 hz2;have Rj:=HB1.out.fresh hk2 hb2;obtain ⟨sb,hsb⟩:∃ sb,sb=block key ((cc+(j:Int) / 64) % 4294967296) aK:=⟨_,rfl⟩;rw [← hsb] at Rj;have hsl:sb.length=64:=by { rw [hsb];exact qA _ _ _ };have hse:sb=block key ((c+(j / 64:Nat)) % 4294967296) aK:=by { rw [hsb,C3.out] };have HSL:=Lib.hid hsl;have Mw:=Lib.hid hse;have HT2:=Lib.hid Rj;have q1:=aU Rj.bs (j % 64) (by rw [hsl];omega);have q2:=aC Rj.bo j;have q3:=(aG Rj.bo j).trans (tq _ _ j (by rw [HL.out];exact hlt));rw [HG.out] at q3;have HQ:=Lib.hid (HX.out);rw [← hse,h64] at HQ;rw [h64] at q1;clear hb2 hk2 hz2 Rj hsb hsl hse;generalize sb.getD 0 0=y at q1 HQ))
   simp only [Act.put]
   go_region
   have HT3:=Lib.hid (HT2.out.set j (bits .xor .u8 x y) (by rw [HL.out];exact hlt)).drew
   rw [OI T xs j n _ uE.out iG.out hlt HQ.out.symm] at HT3
   clear q1 q2 q3 HB HB1 HT2
   go_wp2_with fail
   go_roundw
   case rel =>
    refine ⟨j+1,sb,by omega,by go_num,⟨HSL.out,fun _=>?_⟩,HT3.out⟩
    rw [Mw.out,show (j+1) / 64=j / 64 by omega]
   case measure=>simp [intOf];omega
  ·have h64':(j:Int) % 64≠0:=by omega
   have hse:=HBGN.out.2 h64
   have HQ:=Lib.hid (HX.out)
   rw [← hse] at HQ
   have q1:=aU HB.out.bs (j % 64) (by rw [HBGN.out.1];omega)
   have q2:=aC HB.out.bo j
   have q3:=(aG HB.out.bo j).trans (tq _ _ j (by rw [HL.out];exact hlt))
   rw [HG.out] at q3
   have Mw:=Lib.hid hse
   clear hse
   generalize hy:st.getD (j % 64) 0=y at q1 HQ
   clear hy
   go_wp2_with fail
   go_region
   have HT3:=Lib.hid (HB.out.set j (bits .xor .u8 x y) (by rw [HL.out];exact hlt)).drew
   rw [OI T xs j n _ uE.out iG.out hlt HQ.out.symm] at HT3
   clear q1 q2 q3 HB
   go_wp2_with fail
   go_roundw
   case rel =>
    refine ⟨j+1,st,by omega,by go_num,⟨HBGN.out.1,fun h=>?_⟩,HT3.out⟩
    rw [Mw.out,show (j+1) / 64=j / 64 by omega]
   case measure=>simp [intOf];omega
 ·have e9:j=n:=by omega
  rw [e9,List.take_of_length_le (by rw [uE.out];omega),List.drop_eq_nil_of_le (by rw [iG.out];omega),List.append_nil] at hB
  have HB:=Lib.hid hB
  clear hB e9
  go_wp2_with fail
  go_ret
  rw [← HT.out]
  refine ⟨.slice (some ⟨g,0,none⟩) n vc,rfl,aV.OA ?_,HB.out.below⟩
  have hv:=HVC.out
  have hg:=HB.out.lg
  exact ⟨g,vc,sp,by rw [uE.out],by omega,HB.out.bo,by rw [uE.out,hv.1,iG.out],hv.2⟩
theorem Qy (sa:Option Addr) (cap:Nat) (key aK:List Int) (c:Int) (w:World) :
  Calls Tryd.prog 72 #[.agg (arr .u8 key), .int .i64 c, .agg (arr .u8 aK), .slice sa 0 cap] w fun e w'=>∃ v,e = .returned v∧aV w' w.heap.size v []∧Below w.heap.size w w':=by
 have z64:=zero64
 have hand:=Mh c
 have c1:0≤c % 4294967296:=by omega
 have c2:c % 4294967296≤4294967295:=by omega
 generalize hcc:c % 4294967296=cc at hand c1 c2
 clear hcc
 have e1:∀ o,(w.alloc o).heap.size=w.heap.size+1:=by simp
 have e2:∀ o p,((w.alloc o).alloc p).heap.size=w.heap.size+1+1:=by simp
 have a3:Below w.heap.size w ((w.alloc (.cells (arr .u8 key) 23)).alloc (.cells (arr .u8 aK) 108)):=((Below.refl _ w).alloc (Nat.le_refl _) _).alloc (by rw [e1];omega) _
 have hs:Src ((w.alloc (.cells (arr .u8 key) 23)).alloc (.cells (arr .u8 aK) 108)) sa 0 []:=⟨rfl,fun i hi=>absurd hi (by omega)⟩
 have HS:=Lib.hid hs
 have A3:=Lib.hid a3
 have E2:=Lib.hid e2
 clear hs a3 e1 e2
 go_enter Tryd.func72, Tryd.ntmps72
 go_wp2_with (first|((with_reducible refine aS 14 ?_);refine aO rfl (.const (.slice none 0 0)) (.tmp 13) rfl (w.heap.size+1+1) (.slice none 0 0) [] rfl (aV.nil _ _) sa 0 cap [] rfl HS.out (by simp) (by rw [E2.out];omega) ?_;intro v1 w1 ho1 hg1 hn1 hb1;have hv:=hn1.2 ⟨rfl,rfl⟩;subst hv;have hbel:=A3.out.trans ((aQ (aV.nil _ (w.heap.size+1+1)) hg1 (Below.refl _ _) (by rw [E2.out];omega)).mono (by omega));have mh:=Lib.hid hbel;clear ho1 hg1 hn1 hb1 hbel)|((with_reducible refine aS 11 ?_);refine aj rfl 26 rfl _ (zero64 _) ?_))
 have HB0:=Lib.hid (mh.out.alloc mh.out.size (.cells (arr .u8 (List.replicate 64 0)) 26))
 clear hand mh HS A3 E2
 go_loopw [12] (fun i wr=>i = .int .i64 0∧Below w.heap.size w wr) (fun i _=>0)
 case atStart=>exact ⟨rfl,HB0.out⟩
 clear HB0
 case round =>
 obtain ⟨rfl,hB⟩:=hrel
 go_wp2_with fail
 go_ret
 exact ⟨.slice none 0 0,rfl,aV.nil _ _,hB⟩
theorem Qz (sa:Option Addr) (n cap:Nat) (xs key aK:List Int) (c:Int) (w:World) (hs:Src w sa n xs) (hk:key.length=32) (hn:aK.length=12) (bk:bytes key) (bn:bytes aK) (hln:n≤1099511627776) :
  Calls Tryd.prog 72 #[.agg (arr .u8 key), .int .i64 c, .agg (arr .u8 aK), .slice sa n cap] w fun e w'=>∃ v,e = .returned v∧aV w' w.heap.size v (turn key c aK xs)∧Below w.heap.size w w':=by
 rcases Nat.eq_zero_or_pos n with h0|h0
 ·have hx:xs=[]:=List.eq_nil_of_length_eq_zero (hs.len.trans h0)
  subst hx h0
  have e:turn key c aK []=[]:=by simp [turn]
  rw [e]
  exact Qy sa cap key aK c w
 ·exact Qx sa n cap xs key aK c w hs hk hn bk bn hln h0
end Go.Proofs.YthdgbgleklkaiaaDoor.Ch
namespace Go.Proofs.YthdgbgleklkaiaaDoor.Ed
open Go.RowKit Lm Fp Cu Pri
theorem O4 (a e:Nat):∀ n,iB a e n=pw P0 a e n
 | 0=>rfl
 | n+1=>by
  unfold iB pw
  rw [O4 a e n]
  rfl
theorem toK_fpow (a e:Nat) (he:e < 2 ^ 256):toK (iB a e 256)=toK (a ^ e):=by
 rw [O4,to_eq,xO P0 a e he]
theorem toK_finv (a:Nat):toK (finv a)=inv (toK a):=by
 unfold finv inv
 rw [toK_fpow _ _ (by decide +kernel),to_eq,iV,QM,← Nat.pow_mod]
theorem toK_lt {x y:Nat} (hx:x < Fp.p) (hy:y < Fp.p) (h:toK x=toK y):x=y:=by
 rw [to_eq,← QM,Nat.mod_eq_of_lt hx,Nat.mod_eq_of_lt hy] at h
 exact h
theorem toK_is {x:Nat} (hx:x < Fp.p) {a:K} (h:toK x=a):x=a.val:=by
 rw [← h,iV,← QM,Nat.mod_eq_of_lt hx]
theorem OH (a z:K) (hz:z≠0):a * z * inv z=a:=by
 have:=dJ z hz
 grind
theorem Is.bytes {P:Pt} {A:K×K} (h:Is P A):lu P=A.2.val+2 ^ 255 * (A.1.val % 2):=by
 have e1:aA P.y (finv P.z)=A.2.val:=toK_is (dD _ _) (by rw [gG,toK_finv,h.ext.ey];exact OH _ _ h.ext.ez)
 have e2:aA P.x (finv P.z)=A.1.val:=toK_is (dD _ _) (by rw [gG,toK_finv,h.ext.ex];exact OH _ _ h.ext.ez)
 unfold lu
 rw [e1,e2]
theorem pm_one {t:K} (h:t * t=1):t=1∨t = -1:=by
 have h1:(t - 1) * (t+1)=0:=by grind
 rcases int h1 with h2|h2
 ·left;grind
 ·right;grind
theorem pm {r x:K} (h:r * r=x * x):r=x∨r = -x:=by
 have h1:(r - x) * (r+x)=0:=by grind
 rcases int h1 with h2|h2
 ·left;grind
 ·right;grind
theorem im_k:toK im * toK im = -1:=by decide +kernel
theorem root_k {s:Nat} (hs:s < Fp.p) {X:K} (h:toK s=X * X):(jr s).2=true∧toK (jr s).1 * toK (jr s).1=X * X∧(jr s).1 % 2=0∧(jr s).1 < Fp.p:=by
 have hT:∃ T:K,toK (iB s eighth 256) * toK (iB s eighth 256)=toK s * T∧(X≠0→T * T=1):=by
  refine ⟨toK (s ^ (2 * eighth - 1)),?_,fun hX=>?_⟩
  ·rw [toK_fpow _ _ (by decide +kernel),← lS,← lS,← Nat.pow_add,← Nat.pow_succ',show (2 * eighth - 1).succ=eighth+eighth by decide +kernel]
  ·have hX':X.val % P0≠0:=fun e=>hX (by rw [← iU X];exact mY.2 e)
   rw [← lS,← Nat.pow_add]
   show _=toK 1
   rw [to_eq,show 1 % P0=1 by decide +kernel]
   refine Eq.trans ?_ (u7 _ hX')
   have e1:s % P0=(X.val * X.val) % P0:=by rw [← to_eq,h,lS,iU]
   rw [Nat.pow_mod,e1,← Nat.pow_mod,Nat.mul_pow,← Nat.pow_add]
   congr 2
 obtain ⟨T,hT1,Rj⟩:=hT
 have hy:∃ y,y < Fp.p∧aA y y=s∧jr s=(if y % 2=1 then aX 0 y else y,true):=by
  by_cases h1:aA (iB s eighth 256) (iB s eighth 256)=s
  ·exact ⟨iB s eighth 256,O5 _ _ _,h1,by unfold jr;simp only [if_pos h1]⟩
  ·have h2:T≠1:=fun e=>h1 (toK_lt (dD _ _) hs (by rw [gG,hT1,e];grind))
   have h0:X≠0:=fun e=>h1 (toK_lt (dD _ _) hs (by rw [gG,hT1,h,e];grind))
   have h3:=(pm_one (Rj h0)).resolve_left h2
   have h4:aA (aA (iB s eighth 256) im) (aA (iB s eighth 256) im)=s:=toK_lt (dD _ _) hs (by
    rw [gG,gG]
    have:=im_k
    rw [h3] at hT1
    grind)
   exact ⟨aA (iB s eighth 256) im,dD _ _,h4,by unfold jr;simp only [if_neg h1,if_pos h4]⟩
 obtain ⟨y,y1,y2,y3⟩:=hy
 have y4:toK y * toK y=X * X:=by rw [← gG,y2,h]
 have hp2:Fp.p % 2=1:=by decide +kernel
 rw [y3]
 refine ⟨rfl,?_⟩
 show toK (if y % 2=1 then aX 0 y else y) * toK (if y % 2=1 then aX 0 y else y)=_∧(if y % 2=1 then aX 0 y else y) % 2=0∧(if y % 2=1 then aX 0 y else y) < Fp.p
 split
 ·rename_i ho
  have e1:aX 0 y=Fp.p - y:=by
   rw [aX,Nat.zero_add,Nat.mod_eq_of_lt (by omega)]
  refine ⟨?_,by rw [e1];omega,O3 _ _⟩
  rw [ku 0 y1]
  have:toK 0=0:=rfl
  rw [this]
  grind
 ·exact ⟨y4,by omega,y1⟩
theorem o4 {n:Nat} [NeZero n] (d:Fin n):d * (0 * 0)+1=1:=by grind
theorem den (A:K×K):toK D0 * (A.2 * A.2)+1≠0:=by
 intro h
 obtain ⟨i,hi⟩:=mK.im
 have h1:i * i=toK D0 * (A.2 * A.2):=by rw [hi];grind
 have h2:=non h1
 rw [h2] at h
 have h3:toK D0 * ((0:K) * 0)+1=1:=o4 _
 exact mK.one (h3.symm.trans h)
theorem num {A:K×K} (hA:on A):(A.2 * A.2 - 1) * inv (toK D0 * (A.2 * A.2)+1)=A.1 * A.1:=by
 have h1:=dJ _ (den A)
 have h2:A.2 * A.2 - 1=A.1 * A.1 * (toK D0 * (A.2 * A.2)+1):=by
  have h3:A.2 * A.2=A.1 * A.1+1+toK D0 * (A.1 * A.1) * (A.2 * A.2):=hA
  grind
 rw [h2]
 grind
theorem QH {A:K×K} (hA:on A):∃ Q,iQ (A.2.val+2 ^ 255 * (A.1.val % 2))=some Q∧Is Q A:=by
 have hp:=p_eq
 have hy:A.2.val < Fp.p:=A.2.isLt
 have hx:A.1.val < Fp.p:=A.1.isLt
 have hb:A.1.val % 2 < 2:=Nat.mod_lt _ (by decide)
 have e1:(A.2.val+2 ^ 255 * (A.1.val % 2)) % 2 ^ 255=A.2.val:=by omega
 have e2:(A.2.val+2 ^ 255 * (A.1.val % 2)) / 2 ^ 255=A.1.val % 2:=by omega
 have hp2:Fp.p % 2=1:=by decide +kernel
 obtain ⟨r1,r2,r3,r4⟩:=root_k (s:=aA (aX (aA A.2.val A.2.val) 1) (finv (aJ (aA dd (aA A.2.val A.2.val)) 1))) (dD _ _) (X:=A.1) (by
  rw [gG,toK_finv,ku _ zf,Dz,gG,gG,gG,iU,d_is]
  exact num hA)
 unfold iQ
 simp only [e1,e2]
 rw [if_pos hy]
 generalize jr (aA (aX (aA A.2.val A.2.val) 1) (finv (aJ (aA dd (aA A.2.val A.2.val)) 1)))=R at *
 have hx0:A.1.val % 2=1→R.1≠0:=fun ho h0=>by
  rw [h0] at r2
  have h1:A.1 * A.1=0:=by rw [← r2];rfl
  have h2:A.1=0:=(int h1).elim id id
  rw [h2] at ho
  exact absurd ho (by decide +kernel)
 rw [if_pos ⟨r1,hx0⟩]
 refine ⟨_,rfl,?_⟩
 have key:toK (if A.1.val % 2=1 then aX 0 R.1 else R.1)=A.1:=by
  have v1:toK A.1.val=A.1:=iU _
  split
  ·rename_i ho
   rw [ku 0 r4]
   rcases pm r2 with h|h
   ·have:=toK_is r4 h
    omega
   ·rw [h]
    show toK 0 - -A.1=A.1
    have:toK 0=0:=rfl
    rw [this]
    grind
  ·rename_i ho
   rcases pm r2 with h|h
   ·exact h
   ·have h1:toK (R.1+A.1.val)=0:=by rw [Ju,h,v1];grind
    rw [mY] at h1
    have h2:R.1=0∧A.1.val=0:=by
     have h1':(R.1+A.1.val) % Fp.p=0:=h1
     obtain ⟨c,hc⟩:=Nat.dvd_of_mod_eq_zero h1'
     have:c < 2:=by
      rcases Nat.lt_or_ge c 2 with h3|h3
      ·exact h3
      ·have:=Nat.mul_le_mul_left Fp.p h3
       omega
     rcases (show c=0∨c=1 by omega) with rfl|rfl <;> omega
    rw [h2.1]
    rw [h2.2] at v1
    exact v1
 have hlt:(if A.1.val % 2=1 then aX 0 R.1 else R.1) < Fp.p:=by
  split
  ·exact O3 _ _
  ·exact r4
 have t1:toK 1=1:=rfl
 exact ⟨⟨hlt,hy,zf,dD _ _⟩,⟨by show toK 1≠0;exact mK.one,by show toK _=A.1 * toK 1;rw [key,t1];grind,by show toK _=A.2 * toK 1;rw [iU,t1];grind,by show toK (aA _ _)=A.1 * A.2 * toK 1;rw [gG,key,iU,t1];grind⟩⟩
end Go.Proofs.YthdgbgleklkaiaaDoor.Ed
