/- Parts of the proof (part 8): what the rows' text needs of the texts that lead to it. -/
import Derived.Test.YtfdcckcadfhpeaaGreatDoorMUg
set_option linter.unusedVariables false
set_option linter.unusedSimpArgs false
set_option linter.unusedSectionVars false
namespace Go.Sl.Ev
open Go Go.Sl
noncomputable def lpC (c:Cd) (F:Nat):(Cmd→Res)→Tr CV→Tr CB→Nat→Kx→Res:=
 Nat.rec (motive:=fun _=>(Cmd→Res)→Tr CV→Tr CB→Nat→Kx→Res) (fun _ _ _ _ _=>.bad 0 []) (fun _ r ih E h nx k=>c.run ih E h nx (fun x E h nx=>match x with | .normal=>r ih E h nx k | x=>k x E h nx)) F
noncomputable def ccode (P:Program) (pr:Prims) (LF:Nat) (n:Nat) (c:Code):Cd:=Code.rec (motive:=fun _=>Cd) ⟨fun _ E h nx k=>k .normal E h nx⟩
 (fun id ops draw=>bif not draw && (ops.toList.all notDefer && plainL ops.toList) then ⟨fun ih E h nx k=>rops (cops P pr n ops.toList) ih E h nx (fun E h nx=>k .normal E h nx)⟩ else bif draw && (P.follows .mixedOrders && plainL ops.toList) then (match planQ ops.toList with | some p=>⟨fun ih E h nx k=>(creg P pr n ops.toList p).run ih [] E h nx (fun E h nx=>k .normal E h nx)⟩ | none=>genC P pr (.region id ops draw) n) else genC P pr (.region id ops draw) n)
 (fun _ _ a b=>⟨fun ih E h nx k=>a.run ih E h nx (fun x E h nx=>match x with | .normal=>b.run ih E h nx k | x=>k x E h nx)⟩)
 (fun c _ _ a b=>⟨fun ih E h nx k=>match (rdo c).run E with | some (.bool t)=>bif t then a.run ih E h nx k else b.run ih E h nx k | _=>.bad 1 []⟩)
 (fun id _ c=>⟨fun ih E h nx k=>c.run ih E h nx (fun x E h nx=>match x with | .exit id'=>bif Nat.beq id' id then k .normal E h nx else k (.exit id') E h nx | x=>k x E h nx)⟩)
 (fun _ c=>⟨fun ih E h nx k=>lpC c LF ih E h nx k⟩)
 (fun g ps asg body _ _=>genC P pr (.rangeFunc g ps asg body) n)
 (fun id=>⟨fun _ E h nx k=>k (.exit id) E h nx⟩)
 (fun _ c=>⟨fun ih E h nx k=>c.run ih E h nx (fun x E h nx=>match x with | .normal=>k .normal E h nx | .ret=>k .ret E h nx | .exit id=>k (.exit id) E h nx | _=>.bad 22 [])⟩)
 (fun _=>⟨fun _ E h nx k=>k .normal E h nx⟩)
 (fun l=>genC P pr (.goto l) n)
 ⟨fun _ E h nx k=>k .ret E h nx⟩
 (fun s=>genC P pr (.refuse s) n) c
section
variable {P:Program} {Φ:Imm→Prop} {pr:Prims}
noncomputable def blkR (id:Nat) (x:Exit) (E:Tr CV) (h:Tr CB) (nx:Nat):Res:=match x with | .exit id'=>bif Nat.beq id' id then .ok .normal E h nx else .ok (.exit id') E h nx | x=>.ok x E h nx
noncomputable def scpR (x:Exit) (E:Tr CV) (h:Tr CB) (nx:Nat):Res:=match x with | .normal=>.ok .normal E h nx | .ret=>.ok .ret E h nx | .exit id=>.ok (.exit id) E h nx | _=>.bad 22 []
section rules
variable {a b c:Code} {n:Nat} {E E1 E2:Tr CV} {h h1 h2:Tr CB} {nx nx1 nx2:Nat} {x:Exit} {r:Res}
theorem seq_rule (H1:Does1 P Φ (.code a n E h nx) (.ok .normal E1 h1 nx1)) (H2:Does1 P Φ (.code b n E1 h1 nx1) (.ok x E2 h2 nx2)):Does1 P Φ (.code (.seq a b) n E h nx) (.ok x E2 h2 nx2):=by
 intro r ρ w0 ac w hR hf hn hrr Q hQ
 refine wpIn_seq (H1 r ρ w0 ac w hR hf hn (hrr.imp id fun q=>(Bool.and_eq_true _ _▸(show (noR a && noR b)=true from q)).1) _ fun ρ' a' w' e1 e2=>?_)
 exact H2 r ρ' w0 a' w' e2 e1.fit hn (hrr.imp id fun q=>(Bool.and_eq_true _ _▸(show (noR a && noR b)=true from q)).2) Q fun ρ2 a2 w2 f1 f2=>hQ ρ2 a2 w2 (e1.trans hR.mem f1) f2
theorem code_orc {c':Cmd} (H:Does1 P Φ c' r) (n:Nat) (E:Tr CV) (h:Tr CB) (nx:Nat) (c:Code) (r':Res) (e:step P [] (orc1 c' r) (.code c n E h nx)=r'):Does1 P Φ (.code c n E h nx) r':=by
 rw [←e];exact step_code (orc1_tru H) c n E h nx
theorem seq_pass (hx:x≠.normal) (H1:Does1 P Φ (.code a n E h nx) (.ok x E1 h1 nx1)):Does1 P Φ (.code (.seq a b) n E h nx) (.ok x E1 h1 nx1):=by
 refine code_orc H1 n E h nx _ _ ?_
 show stC4 P _ n E h nx a b=_
 unfold stC4
 rw [orc1_eq]
 cases x <;> first | exact absurd rfl hx | rfl
theorem region_rule {id:Nat} {l:List Oper} (hd:l.all notDefer=true) (H1:Does1 P Φ (.ops l l n E h nx) r):Does1 P Φ (.code (.region id ⟨l⟩ false) n E h nx) r:=by
 refine code_orc H1 n E h nx _ _ ?_
 show (bif l.all notDefer then orc1 (.ops l l n E h nx) r (.ops l l n E h nx) else Res.bad 2 [])=_
 rw [hd]
 exact orc1_eq _ _
theorem open_rule {id:Nat} {l:List Oper} {p:List (Nat×Pk)} (hf:P.follows .mixedOrders=true) (hp:planQ l=some p) (H1:Does1 P Φ (.reg l p [] n E h nx) r):Does1 P Φ (.code (.region id ⟨l⟩ true) n E h nx) r:=by
 refine code_orc H1 n E h nx _ _ ?_
 show stC10 P _ n E h nx l=_
 unfold stC10
 rw [hf,hp]
 exact orc1_eq _ _
theorem cond_rule {o:Operand} {t:Bool} (ht:evo E o=some (.bool t)) (H1:Does1 P Φ (.code (bif t then a else b) n E h nx) r):Does1 P Φ (.code (.cond o a b) n E h nx) r:=by
 refine code_orc H1 n E h nx _ _ ?_
 show (match evo E o with
  | some (.bool t)=>orc1 _ r (.code (bif t then a else b) n E h nx)
  | _=>Res.bad 1 [])=_
 rw [ht]
 exact orc1_eq _ _
theorem block_rule {id:Nat} (H1:Does1 P Φ (.code c n E h nx) (.ok x E1 h1 nx1)):Does1 P Φ (.code (.block id c) n E h nx) (blkR id x E1 h1 nx1):=by
 refine code_orc H1 n E h nx _ _ ?_
 show stC6 P _ n E h nx id c=_
 unfold stC6
 rw [orc1_eq]
 cases x <;> rfl
theorem scope_rule (H1:Does1 P Φ (.code c n E h nx) (.ok x E1 h1 nx1)):Does1 P Φ (.code (.scope c) n E h nx) (scpR x E1 h1 nx1):=by
 refine code_orc H1 n E h nx _ _ ?_
 show stC7 P _ n E h nx c=_
 unfold stC7
 rw [orc1_eq]
 cases x <;> rfl
theorem loop_code (H1:Does1 P Φ (.loop c n E h nx) r):Does1 P Φ (.code (.loop c) n E h nx) r:=code_orc H1 n E h nx _ _ (orc1_eq _ _)
theorem loop_more (H1:Does1 P Φ (.code c n E h nx) (.ok .normal E1 h1 nx1)) (H2:Does1 P Φ (.loop c n E1 h1 nx1) r):Does1 P Φ (.loop c n E h nx) r:=by
 have H:=step_loop (pr:=[]) (orc2_tru H1 H2) c n E h nx
 have e:step P [] (orc2 (.code c n E h nx) (.ok .normal E1 h1 nx1) (.loop c n E1 h1 nx1) r) (.loop c n E h nx)=r:=by
  show step1 P [] _ c n E h nx=_
  unfold step1
  rw [orc2_1]
  exact orc2_2 (by intro h;cases h) _ _
 rw [e] at H
 exact H
theorem loop_end (hx:x≠.normal) (H1:Does1 P Φ (.code c n E h nx) (.ok x E1 h1 nx1)):Does1 P Φ (.loop c n E h nx) (.ok x E1 h1 nx1):=by
 have H:=step_loop (pr:=[]) (orc1_tru H1) c n E h nx
 have e:step P [] (orc1 (.code c n E h nx) (.ok x E1 h1 nx1)) (.loop c n E h nx)=.ok x E1 h1 nx1:=by
  show step1 P [] _ c n E h nx=_
  unfold step1
  rw [orc1_eq]
  cases x <;> first | exact absurd rfl hx | rfl
 rw [e] at H
 exact H
end rules
theorem lpC_ok {cd:Cd} {c:Code} {n:Nat} (H:CdOk P Φ cd c n) {ih:Cmd→Res} (hi:Tru P Φ ih):∀ (F:Nat) (E:Tr CV) (h:Tr CB) (nx:Nat),TotX (lpC cd F ih E h nx) (fun x E' h' nx'=>Does1 P Φ (.loop c n E h nx) (.ok x E' h' nx'))
 | 0,E,h,nx=>.inl ⟨0,[],fun k=>rfl⟩
 | F+1,E,h,nx=>by
   show TotX (fun k=>cd.run ih E h nx (fun x E h nx=>match x with | .normal=>lpC cd F ih E h nx k | x=>k x E h nx)) _
   rcases H ih hi E h nx with ⟨w,a,hb⟩ | ⟨x,E1,h1,nx1,hk,hd⟩
   · exact .inl ⟨w,a,fun k=>hb _⟩
   have pass:x≠.normal→TotX (fun k=>cd.run ih E h nx (fun x E h nx=>match x with | .normal=>lpC cd F ih E h nx k | x=>k x E h nx)) (fun x E' h' nx'=>Does1 P Φ (.loop c n E h nx) (.ok x E' h' nx')):=fun hx =>
    .inr ⟨x,E1,h1,nx1,fun k=>(hk _).trans (by cases x <;> first | exact absurd rfl hx | rfl),loop_end hx hd⟩
   cases x with
   | normal =>
     rcases lpC_ok H hi F E1 h1 nx1 with ⟨w,a,hb⟩ | ⟨x2,E2,h2,nx2,hk2,hd2⟩
     · exact .inl ⟨w,a,fun k=>(hk _).trans (hb k)⟩
     · exact .inr ⟨x2,E2,h2,nx2,fun k=>(hk _).trans (hk2 k),loop_more hd hd2⟩
   | _=>exact pass (by intro h;cases h)
theorem ccode_ok (hpr:PrimOk P Φ pr) (LF n:Nat) (c:Code):CdOk P Φ (ccode P pr LF n c) c n:=by
 induction c with
 | skip=>exact fun ih H E h nx=>.inr ⟨.normal,E,h,nx,fun k=>rfl,step_code (pr:=[]) (bad_tru (P:=P) (Φ:=Φ)) .skip n E h nx⟩
 | label l=>exact fun ih H E h nx=>.inr ⟨.normal,E,h,nx,fun k=>rfl,step_code (pr:=[]) (bad_tru (P:=P) (Φ:=Φ)) (.label l) n E h nx⟩
 | exit id=>exact fun ih H E h nx=>.inr ⟨.exit id,E,h,nx,fun k=>rfl,step_code (pr:=[]) (bad_tru (P:=P) (Φ:=Φ)) (.exit id) n E h nx⟩
 | ret=>exact fun ih H E h nx=>.inr ⟨.ret,E,h,nx,fun k=>rfl,step_code (pr:=[]) (bad_tru (P:=P) (Φ:=Φ)) .ret n E h nx⟩
 | goto l=>exact genC_ok hpr (.goto l) n
 | refuse s=>exact genC_ok hpr (.refuse s) n
 | rangeFunc g ps asg body _ _=>exact genC_ok hpr (.rangeFunc g ps asg body) n
 | region id ops draw =>
   show CdOk P Φ (bif not draw && (ops.toList.all notDefer && plainL ops.toList) then ⟨fun ih E h nx k=>rops (cops P pr n ops.toList) ih E h nx (fun E h nx=>k .normal E h nx)⟩ else bif draw && (P.follows .mixedOrders && plainL ops.toList) then (match planQ ops.toList with | some p=>⟨fun ih E h nx k=>(creg P pr n ops.toList p).run ih [] E h nx (fun E h nx=>k .normal E h nx)⟩ | none=>genC P pr (.region id ops draw) n) else genC P pr (.region id ops draw) n) (.region id ops draw) n
   refine bif_val (fun d=>CdOk P Φ d (.region id ops draw) n) (fun hb=>?_) fun _=>bif_val (fun d=>CdOk P Φ d (.region id ops draw) n) (fun hb=>?_) fun _=>genC_ok hpr (.region id ops draw) n
   rotate_left
   · simp only [Bool.and_eq_true] at hb
     obtain ⟨hb1,hb2,hb3⟩:=hb
     obtain ⟨l⟩:=ops
     cases draw with
     | false=>cases hb1
     | true =>
       split
       · rename_i p hp
         intro ih H E h nx
         rcases creg_ok H l n p [] E h nx with ⟨w,a,hb⟩ | ⟨E2,h2,nx2,hk,hd⟩
         · exact .inl ⟨w,a,fun k=>hb _⟩
         exact .inr ⟨.normal,E2,h2,nx2,fun k=>hk _,open_rule hb2 hp hd⟩
       exact genC_ok hpr (.region id ⟨l⟩ true) n
   simp only [Bool.and_eq_true] at hb
   obtain ⟨hb1,hb2,hb3⟩:=hb
   intro ih H E h nx
   obtain ⟨l⟩:=ops
   cases draw with
   | true=>cases hb1
   | false =>
     rcases rops_ok H l n l E h nx hb3 with ⟨w,a,hb⟩ | ⟨E2,h2,nx2,hk,hd⟩
     · exact .inl ⟨w,a,fun k=>hb _⟩
     · exact .inr ⟨.normal,E2,h2,nx2,fun k=>hk _,region_rule hb2 hd⟩
 | seq a b iha ihb =>
   intro ih H E h nx
   show TotX (fun k=>(ccode P pr LF n a).run ih E h nx (fun x E h nx=>match x with | .normal=>(ccode P pr LF n b).run ih E h nx k | x=>k x E h nx)) _
   rcases iha ih H E h nx with ⟨w,ac,hb⟩ | ⟨x,E1,h1,nx1,hk,hd⟩
   · exact .inl ⟨w,ac,fun k=>hb _⟩
   · have pass:x≠.normal→TotX (fun k=>(ccode P pr LF n a).run ih E h nx (fun x E h nx=>match x with | .normal=>(ccode P pr LF n b).run ih E h nx k | x=>k x E h nx)) (fun x E' h' nx'=>Does1 P Φ (.code (.seq a b) n E h nx) (.ok x E' h' nx')):=fun hx =>
      .inr ⟨x,E1,h1,nx1,fun k=>(hk _).trans (by cases x <;> first | exact absurd rfl hx | rfl),seq_pass hx hd⟩
     cases x with
     | normal =>
       rcases ihb ih H E1 h1 nx1 with ⟨w,ac,hb⟩ | ⟨x2,E2,h2,nx2,hk2,hd2⟩
       · exact .inl ⟨w,ac,fun k=>(hk _).trans (hb k)⟩
       · exact .inr ⟨x2,E2,h2,nx2,fun k=>(hk _).trans (hk2 k),seq_rule hd hd2⟩
     | _=>exact pass (by intro h;cases h)
 | cond o a b iha ihb =>
   intro ih H E h nx
   show TotX (fun k=>match (rdo o).run E with | some (.bool t)=>bif t then (ccode P pr LF n a).run ih E h nx k else (ccode P pr LF n b).run ih E h nx k | _=>.bad 1 []) _
   rw [rdo_eq]
   split
   · rename_i t ht
     cases t with
     | true =>
       rcases iha ih H E h nx with ⟨w,ac,hb⟩ | ⟨x2,E2,h2,nx2,hk2,hd2⟩
       · exact .inl ⟨w,ac,fun k=>hb k⟩
       · exact .inr ⟨x2,E2,h2,nx2,fun k=>hk2 k,cond_rule ht hd2⟩
     | false =>
       rcases ihb ih H E h nx with ⟨w,ac,hb⟩ | ⟨x2,E2,h2,nx2,hk2,hd2⟩
       · exact .inl ⟨w,ac,fun k=>hb k⟩
       exact .inr ⟨x2,E2,h2,nx2,fun k=>hk2 k,cond_rule ht hd2⟩
   · exact .inl ⟨1,[],fun k=>rfl⟩
 | block id c ihc =>
   intro ih H E h nx
   show TotX (fun k=>(ccode P pr LF n c).run ih E h nx (fun x E h nx=>match x with | .exit id'=>bif Nat.beq id' id then k .normal E h nx else k (.exit id') E h nx | x=>k x E h nx)) _
   rcases ihc ih H E h nx with ⟨w,ac,hb⟩ | ⟨x,E1,h1,nx1,hk,hd⟩
   · exact .inl ⟨w,ac,fun k=>hb _⟩
   · have hr:=block_rule (id:=id) hd
     cases x with
     | exit id' =>
       cases hbq:Nat.beq id' id with
       | true =>
         simp only [blkR,hbq,cond_true] at hr
         exact .inr ⟨.normal,E1,h1,nx1,fun k=>(hk _).trans (by simp only [hbq,cond_true]),hr⟩
       | false =>
         simp only [blkR,hbq,cond_false] at hr
         exact .inr ⟨.exit id',E1,h1,nx1,fun k=>(hk _).trans (by simp only [hbq,cond_false]),hr⟩
     | normal=>exact .inr ⟨_,E1,h1,nx1,fun k=>hk _,hr⟩
     | ret=>exact .inr ⟨_,E1,h1,nx1,fun k=>hk _,hr⟩
     | goto l=>exact .inr ⟨_,E1,h1,nx1,fun k=>hk _,hr⟩
     | panic ch=>exact .inr ⟨_,E1,h1,nx1,fun k=>hk _,hr⟩
     | outgrown=>exact .inr ⟨_,E1,h1,nx1,fun k=>hk _,hr⟩
 | scope c ihc =>
   intro ih H E h nx
   show TotX (fun k=>(ccode P pr LF n c).run ih E h nx (fun x E h nx=>match x with | .normal=>k .normal E h nx | .ret=>k .ret E h nx | .exit id=>k (.exit id) E h nx | _=>.bad 22 [])) _
   rcases ihc ih H E h nx with ⟨w,ac,hb⟩ | ⟨x,E1,h1,nx1,hk,hd⟩
   · exact .inl ⟨w,ac,fun k=>hb _⟩
   · have hr:=scope_rule hd
     cases x with
     | normal=>exact .inr ⟨_,E1,h1,nx1,fun k=>hk _,hr⟩
     | ret=>exact .inr ⟨_,E1,h1,nx1,fun k=>hk _,hr⟩
     | exit id=>exact .inr ⟨_,E1,h1,nx1,fun k=>hk _,hr⟩
     | _=>exact .inl ⟨22,[],fun k=>hk _⟩
 | loop c ihc =>
   intro ih H E h nx
   show TotX (fun k=>lpC (ccode P pr LF n c) LF ih E h nx k) _
   rcases lpC_ok ihc H LF E h nx with ⟨w,ac,hb⟩ | ⟨x,E1,h1,nx1,hk,hd⟩
   · exact .inl ⟨w,ac,fun k=>hb k⟩
   exact .inr ⟨x,E1,h1,nx1,fun k=>hk k,loop_code hd⟩
noncomputable def dirC (P:Program) (pr:Prims) (LF:Nat) (ih:Cmd→Res):Cmd→Res
 | .code c n E h nx=>(ccode P pr LF n c).run ih E h nx (fun x E h nx=>.ok x E h nx)
 | c=>ih c
theorem dirC_tru (hpr:PrimOk P Φ pr) (LF:Nat) {ih:Cmd→Res} (H:Tru P Φ ih):Tru P Φ (dirC P pr LF ih):=fun c=>by
 cases c with
 | code c n E h nx =>
   show Does1 P Φ _ ((ccode P pr LF n c).run ih E h nx (fun x E h nx=>.ok x E h nx))
   rcases ccode_ok hpr LF n c ih H E h nx with ⟨w,ac,hb⟩ | ⟨x,E1,h1,nx1,hk,hd⟩
   · rw [hb];exact does_bad _ _ _
   · rw [hk];exact hd
 | _=>exact H _
end
end Go.Sl.Ev
namespace Go.Sl.Ev
open Go Go.Sl
noncomputable def oNe (a b:Option Nat):Bool:=match a with
 | none=>(match b with | none=>true | some _=>false)
 | some x=>(match b with | none=>false | some y=>Nat.beq x y)
theorem oNe_ok {a b:Option Nat} (h:oNe a b=true):a=b:=by
 cases a <;> cases b <;> first | rfl | (cases h;done) | (exact congrArg some (Nat.eq_of_beq_eq_true h))
noncomputable def eqV (a:CV):CV→Bool:=CV.rec (motive:=fun _=>CV→Bool)
 (fun k n b=>match b with | .int k' n'=>ikB k k' && ieq n n' | _=>false)
 (fun x b=>match b with | .bool y=>eqB x y | _=>false)
 (fun _ ih b=>match b with | .str s=>ih s | _=>false)
 (fun t o b=>match b with | .ptr t' o'=>Nat.beq t t' && Nat.beq o o' | _=>false)
 (fun b=>match b with | .nilp=>true | _=>false)
 (fun t o n sz c b=>match b with | .sl t' o' n' sz' c'=>Nat.beq t t' && (Nat.beq o o' && (Nat.beq n n' && (Nat.beq sz sz' && oNe c c'))) | _=>false)
 (fun b=>match b with | .nils=>true | _=>false)
 (fun b=>match b with | .sle=>true | _=>false)
 (fun t b=>match b with | .mp t'=>Nat.beq t t' | _=>false)
 (fun b=>match b with | .nilm=>true | _=>false)
 (fun f _ _ i1 i2 b=>match b with | .fn f' x y=>Nat.beq f f' && (i1 x && i2 y) | _=>false)
 (fun b=>match b with | .nilf=>true | _=>false)
 (fun t b=>match b with | .yl t'=>Nat.beq t t' | _=>false)
 (fun _ ih b=>match b with | .agg l=>ih l | _=>false)
 (fun _ ih b=>match b with | .tup l=>ih l | _=>false)
 (fun b=>match b with | .nil=>true | _=>false)
 (fun _ _ i1 i2 b=>match b with | .cons x y=>i1 x && i2 y | _=>false) a
theorem beqN {a b:Nat} (h:Nat.beq a b=true):a=b:=Nat.eq_of_beq_eq_true h
theorem eqB_ok {a b:Bool} (h:eqB a b=true):a=b:=by cases a <;> cases b <;> first | rfl | cases h
theorem eqV_ok:∀ {a b:CV},eqV a b=true→a=b:=by
 intro a
 induction a with
 | int k n =>
   intro b h
   cases b <;> first | (cases h;done) | skip
   rename_i k' n'
   have h':(ikB k k' && ieq n n')=true:=h
   rw [Bool.and_eq_true] at h'
   rw [ikB_eq h'.1,of_decide_eq_true ((ieq_eq n n').symm.trans h'.2)]
 | bool x=>intro b h;cases b <;> first | (cases h;done) | (exact congrArg _ (eqB_ok h))
 | str s ih=>intro b h;cases b <;> first | (cases h;done) | (exact congrArg _ (ih h))
 | ptr t o =>
   intro b h
   cases b <;> first | (cases h;done) | skip
   rename_i t' o'
   have h':(Nat.beq t t' && Nat.beq o o')=true:=h
   rw [Bool.and_eq_true] at h'
   rw [beqN h'.1,beqN h'.2]
 | nilp=>intro b h;cases b <;> first | rfl | cases h
 | sl t o n sz c =>
   intro b h
   cases b <;> first | (cases h;done) | skip
   rename_i t' o' n' sz' c'
   have h':(Nat.beq t t' && (Nat.beq o o' && (Nat.beq n n' && (Nat.beq sz sz' && oNe c c'))))=true:=h
   simp only [Bool.and_eq_true] at h'
   rw [beqN h'.1,beqN h'.2.1,beqN h'.2.2.1,beqN h'.2.2.2.1,oNe_ok h'.2.2.2.2]
 | nils=>intro b h;cases b <;> first | rfl | cases h
 | sle=>intro b h;cases b <;> first | rfl | cases h
 | mp t=>intro b h;cases b <;> first | (cases h;done) | (exact congrArg _ (beqN h))
 | nilm=>intro b h;cases b <;> first | rfl | cases h
 | fn f x y i1 i2 =>
   intro b h
   cases b <;> first | (cases h;done) | skip
   rename_i f' x' y'
   have h':(Nat.beq f f' && (eqV x x' && eqV y y'))=true:=h
   simp only [Bool.and_eq_true] at h'
   rw [beqN h'.1,i1 h'.2.1,i2 h'.2.2]
 | nilf=>intro b h;cases b <;> first | rfl | cases h
 | yl t=>intro b h;cases b <;> first | (cases h;done) | (exact congrArg _ (beqN h))
 | agg l ih=>intro b h;cases b <;> first | (cases h;done) | (exact congrArg _ (ih h))
 | tup l ih=>intro b h;cases b <;> first | (cases h;done) | (exact congrArg _ (ih h))
 | nil=>intro b h;cases b <;> first | rfl | cases h
 | cons x y i1 i2 =>
   intro b h
   cases b <;> first | (cases h;done) | skip
   rename_i x' y'
   have h':(eqV x x' && eqV y y')=true:=h
   rw [Bool.and_eq_true] at h'
   rw [i1 h'.1,i2 h'.2]
structure EB where
 t:Nat
 l:CV
 ty:Nat
 op:Bool
 ro:Bool
 st:Nat
noncomputable def EB.cb (x:EB):CB:=bif x.ro then .ro (ofR x.l) x.ty x.st else .cells (ofR x.l) x.ty x.op x.st
noncomputable def addEB (h:Tr CB) (l:List EB):Tr CB:=List.rec h (fun x _ ih=>ih.set (some x.cb) Fit x.t) l
noncomputable def hasEB (g:Bool) (h:Tr CB) (x:EB):Bool:=match h.get x.t with
 | some (.cells l ty op st)=>not x.ro && (Nat.beq l.n (lenC x.l) && (eqV (sliceR l 0 l.n) x.l && (Nat.beq ty x.ty && (eqB op x.op && (not g || Nat.beq st x.st)))))
 | some (.ro l ty st)=>x.ro && (Nat.beq l.n (lenC x.l) && (eqV (sliceR l 0 l.n) x.l && (Nat.beq ty x.ty && (not g || Nat.beq st x.st))))
 | _=>false
theorem stEB (x:EB):stB x.cb=x.st:=by
 unfold EB.cb
 cases x.ro <;> rfl
theorem hasEB_ok {g:Bool} {h:Tr CB} {x:EB} (hx:hasEB g h x=true):∃ b,h.get x.t=some b∧(g=true→stB b=x.st)∧∀ (nx:Nat) (ρ:Pl) (s:Nat) (o:Obj),DB nx ρ s b o→DB nx ρ s x.cb o:=by
 unfold hasEB at hx
 have key:∀ {l:Rw},Nat.beq l.n (lenC x.l)=true→eqV (sliceR l 0 l.n) x.l=true→∀ {nx:Nat} {ρ:Pl} {vs:List Value},RL nx ρ l vs→RL nx ρ (ofR x.l) vs:=fun {l} h1 h2 {nx ρ vs} hr=>by
  have e1:=eqV_ok h2
  have e2:=beqN h1
  have hl:lenC (sliceR l 0 l.n)=l.n:=by rw [e1,←e2]
  have hk:=sliceR_ok hr hl
  rw [e1,hr.1] at hk
  simp only [List.drop_zero,List.take_length] at hk
  exact ofR_ok hk
 split at hx
 · rename_i l ty op st hb
   simp only [Bool.and_eq_true,Bool.not_eq_true'] at hx
   obtain ⟨h1,h2,h3,h4,h5,h6⟩:=hx
   refine ⟨_,hb,fun hg=>?_,fun nx ρ s o hd=>?_⟩
   · subst hg;show st=x.st;simpa using h6
   unfold EB.cb
   rw [h1]
   obtain ⟨vs,junk,k1,k2,k3,k4⟩:=hd
   refine ⟨vs,junk,key h2 h3 k1,by rw [←beqN h4];exact k2,k3,fun ho=>k4 (by rw [eqB_ok h5];exact ho)⟩
 · rename_i l ty st hb
   simp only [Bool.and_eq_true] at hx
   obtain ⟨h1,h2,h3,h4,h6⟩:=hx
   refine ⟨_,hb,fun hg=>?_,fun nx ρ s o hd=>?_⟩
   · subst hg;show st=x.st;simpa using h6
   unfold EB.cb
   rw [h1]
   obtain ⟨vs,fz,k1,k2⟩:=hd
   exact ⟨vs,fz,key h2 h3 k1,by rw [←beqN h4];exact k2⟩
 cases hx
theorem addEB_get (h:Tr CB):∀ {l:List EB},(∀ x∈l,x.t<Fit)→∀ {t:Nat} {b:CB},(addEB h l).get t=some b→(∃ x∈l,x.t=t∧x.cb=b)∨((∀ x∈l,x.t≠t)∧h.get t=some b)
 | [],_,t,b,hg=>.inr ⟨fun x hx=>(by cases hx),hg⟩
 | x :: l,hl,t,b,hg=>by
   have hg':((addEB h l).set (some x.cb) Fit x.t).get t=some b:=hg
   rw [Tr.get_set _ _ _ _ _ (hl x (List.mem_cons_self ..))] at hg'
   by_cases e:t=x.t
   · rw [if_pos e] at hg'
     cases hg'
     exact .inl ⟨x,List.mem_cons_self ..,e.symm,rfl⟩
   rw [if_neg e] at hg'
   rcases addEB_get h (fun y hy=>hl y (List.mem_cons_of_mem _ hy)) hg' with ⟨y,h1,h2⟩ | ⟨h1,h2⟩
   · exact .inl ⟨y,List.mem_cons_of_mem _ h1,h2⟩
   refine .inr ⟨fun y hy=>?_,h2⟩
   rcases List.mem_cons.1 hy with rfl | hy
   · exact fun e2=>e e2.symm
   exact h1 y hy
theorem addEB_has (h:Tr CB):∀ {l:List EB},(∀ x∈l,x.t<Fit)→∀ {t:Nat},((∃ x∈l,x.t=t)∨(∃ b,h.get t=some b))→∃ b,(addEB h l).get t=some b
 | [],_,t,hg=>hg.elim (fun ⟨x,hx,_⟩=>by cases hx) id
 | x :: l,hl,t,hg=>by
   show ∃ b,((addEB h l).set (some x.cb) Fit x.t).get t=some b
   rw [Tr.get_set _ _ _ _ _ (hl x (List.mem_cons_self ..))]
   by_cases e:t=x.t
   · exact ⟨_,if_pos e⟩
   rw [if_neg e]
   refine addEB_has h (fun y hy=>hl y (List.mem_cons_of_mem _ hy)) (hg.imp ?_ id)
   rintro ⟨y,hy,h2⟩
   rcases List.mem_cons.1 hy with rfl | hy
   · exact absurd h2.symm e
   exact ⟨y,hy,h2⟩
structure Ent where
 f:Nat
 nx:Nat
 args:CV
 hs:List EB
 v:CV
 news:List EB
 nx':Nat
noncomputable def lookE (mm:List Ent) (f:Nat) (args:CV) (h:Tr CB) (nx:Nat):Option Ent:=
 List.rec none (fun e _ ih=>bif Nat.beq e.f f && (Nat.beq e.nx nx && (eqV e.args args && allB (hasEB false h) e.hs)) then some e else ih) mm
noncomputable def memo (mm:List Ent) (c:Cmd) (r:Res):Res:=match c with
 | .call f args h nx=>(match lookE mm f args h nx with | some e=>.ret e.v (addEB h e.news) e.nx' | none=>r)
 | _=>r
noncomputable def entB (e:Ent):Bool:=Nat.ble e.nx e.nx' && (Nat.ble e.nx' Fit && (allB (fun x=>Nat.ble (Nat.succ x.t) e.nx && Nat.ble (Nat.succ x.st) e.nx) e.hs && allB (fun x=>Nat.ble e.nx x.t && (Nat.ble (Nat.succ x.t) e.nx' && (Nat.ble e.nx x.st && Nat.ble (Nat.succ x.st) e.nx'))) e.news))
def EntOk (P:Program) (Φ:Imm→Prop) (e:Ent):Prop:=entB e=true∧Does1 P Φ (.call e.f e.args (addEB .e e.hs) e.nx) (.ret e.v (addEB (addEB .e e.hs) e.news) e.nx')
def MemoOk (P:Program) (Φ:Imm→Prop) (mm:List Ent):Prop:=∀ e∈mm,EntOk P Φ e
section
variable {P:Program} {Φ:Imm→Prop} {pr:Prims}
theorem entB_ok {e:Ent} (h:entB e=true):e.nx≤e.nx'∧e.nx'≤Fit∧(∀ x∈e.hs,x.t<e.nx∧x.st<e.nx)∧∀ x∈e.news,e.nx≤x.t∧x.t<e.nx'∧e.nx≤x.st∧x.st<e.nx':=by
 unfold entB at h
 simp only [Bool.and_eq_true] at h
 refine ⟨le_ble h.1,le_ble h.2.1,fun x hx=>?_,fun x hx=>?_⟩
 · have:=allB_iff.1 h.2.2.1 x hx
   rw [Bool.and_eq_true] at this
   exact ⟨le_ble this.1,le_ble this.2⟩
 have:=allB_iff.1 h.2.2.2 x hx
 simp only [Bool.and_eq_true] at this
 exact ⟨le_ble this.1,le_ble this.2.1,le_ble this.2.2.1,le_ble this.2.2.2⟩
theorem lookE_ok {mm:List Ent} {f nx:Nat} {args:CV} {h:Tr CB} {e:Ent} (hl:lookE mm f args h nx=some e):e∈mm∧e.f=f∧e.nx=nx∧e.args=args∧∀ x∈e.hs,hasEB false h x=true:=by
 induction mm with
 | nil=>cases hl
 | cons a mm ih =>
   have hl':(bif Nat.beq a.f f && (Nat.beq a.nx nx && (eqV a.args args && allB (hasEB false h) a.hs)) then some a else lookE mm f args h nx)=some e:=hl
   rcases bif_cases hl' with ⟨h1,h2⟩ | ⟨_,h2⟩
   · cases h2
     simp only [Bool.and_eq_true] at h1
     exact ⟨List.mem_cons_self ..,beqN h1.1,beqN h1.2.1,eqV_ok h1.2.2.1,fun x hx=>allB_iff.1 h1.2.2.2 x hx⟩
   obtain ⟨k1,k2⟩:=ih h2
   exact ⟨List.mem_cons_of_mem _ k1,k2⟩
theorem Mem.part {ρ:Pl} {w0:Bas Φ} {h:Tr CB} {nx:Nat} {w:World} {hs:List EB} (hm:Mem ρ w0 h nx w) (hlt:∀ x∈hs,x.t<Fit) (hst:∀ x∈hs,x.st<nx) (hhas:∀ x∈hs,hasEB false h x=true):Mem ρ w0 (addEB .e hs) nx w:=by
 have key:∀ {t b},(addEB .e hs).get t=some b→∃ x∈hs,x.t=t∧x.cb=b:=fun hb=>(addEB_get .e hlt hb).elim id fun h=>by cases h.2
 have old:∀ {t b},(addEB .e hs).get t=some b→∃ c,h.get t=some c:=fun hb=>by
  obtain ⟨x,hx,rfl,_⟩:=key hb
  obtain ⟨c,h1,_⟩:=hasEB_ok (hhas x hx)
  exact ⟨c,h1⟩
 refine ⟨hm.upd,fun t b hb=>?_,fun t t' b b' h1 h2 he=>?_,hm.imm,hm.nod,fun c hc=>⟨(hm.kept c hc).1,(hm.kept c hc).2.1,fun t b hb=>?_⟩⟩
 · obtain ⟨x,hx,rfl,rfl⟩:=key hb
   obtain ⟨c,h1,_,h3⟩:=hasEB_ok (hhas x hx)
   obtain ⟨q1,q2,q3,o,q4,q5⟩:=hm.own _ _ h1
   exact ⟨q1,by rw [stEB];exact hst x hx,q3,o,q4,h3 _ _ _ _ q5⟩
 · obtain ⟨c,k1⟩:=old h1
   obtain ⟨c',k2⟩:=old h2
   exact hm.one _ _ _ _ k1 k2 he
 obtain ⟨c',k1⟩:=old hb
 exact (hm.kept c hc).2.2 _ _ k1
theorem memo_ok {mm:List Ent} (hmm:MemoOk P Φ mm) {c:Cmd} {r:Res} (hr:Does1 P Φ c r):Does1 P Φ c (memo mm c r):=by
 cases c with
 | call f args h nx =>
   show Does1 P Φ _ (match lookE mm f args h nx with | some e=>.ret e.v (addEB h e.news) e.nx' | none=>r)
   split
   · rename_i e he
     obtain ⟨h1,rfl,rfl,rfl,h2⟩:=lookE_ok he
     obtain ⟨hb,hf,hd⟩:=hmm e h1
     obtain ⟨b1,b2,b3,b4⟩:=entB_ok hb
     refine ⟨hf,fun ρ w0 w vs hm hk hfit=>?_⟩
     have hlt:∀ x∈e.hs,x.t<Fit:=fun x hx=>Nat.lt_of_lt_of_le (b3 x hx).1 (Nat.le_trans b1 b2)
     have hlt':∀ x∈e.news,x.t<Fit:=fun x hx=>Nat.lt_of_lt_of_le (b4 x hx).2.1 b2
     have m0:=hm.part hlt (fun x hx=>(b3 x hx).2) h2
     refine (hd ρ w0 w vs m0 hk hfit).mono fun ex w' ⟨u,ρ',e1,e2,e3,e4⟩=>⟨u,ρ',e1,?_,e3,?_⟩
     all_goals
      have g0:∀ {t b},(addEB .e e.hs).get t=some b→∃ c,h.get t=some c∧t<e.nx:=fun hb=>by
       obtain ⟨x,hx,rfl,_⟩:=(addEB_get .e hlt hb).elim id fun h=>by cases h.2
       obtain ⟨c,k1,_⟩:=hasEB_ok (h2 x hx)
       exact ⟨c,k1,(b3 x hx).1⟩
      have unl:∀ {t b},h.get t=some b→(∀ x∈e.hs,x.t≠t)→w'.heap[(ρ t).1]?=w.heap[(ρ t).1]?:=fun {t b} hb hn=>by
       refine e2.old.fr _ (hm.lt hb) (fun t' b' hb' he'=>?_) id
       obtain ⟨x,hx,rfl,_⟩:=(addEB_get .e hlt hb').elim id fun h=>by cases h.2
       obtain ⟨c,k1,_⟩:=g0 hb'
       exact hn x hx (hm.one _ _ _ _ k1 hb he')
      have same:∀ {t b},h.get t=some b→w'.heap[(ρ t).1]?=w.heap[(ρ t).1]?:=fun {t b} hb=>by
       by_cases hin:∃ x∈e.hs,x.t=t
       · obtain ⟨b0,hb0⟩:=addEB_has (.e:Tr CB) hlt (.inl hin)
         obtain ⟨b1',hb1⟩:=addEB_has (addEB .e e.hs) hlt' (.inr ⟨b0,hb0⟩)
         have htn:t<e.nx:=(hm.own t b hb).1
         rcases addEB_get (addEB .e e.hs) hlt' hb1 with ⟨y,hy,hyt,_⟩ | ⟨_,k2⟩
         · have:=(b4 y hy).1;omega
         obtain ⟨x,hx,hxt,hxc⟩:=(addEB_get .e hlt k2).elim id fun h=>by cases h.2
         exact (e2.old.old t b1' hb1 (by rw [←hxc,stEB];exact (b3 x hx).2)).2
       exact unl hb fun x hx hxt=>hin ⟨x,hx,hxt⟩
      have cases2:∀ {t b},(addEB h e.news).get t=some b→(e.nx≤t∧(addEB (addEB .e e.hs) e.news).get t=some b∧e.nx≤stB b∧stB b<e.nx')∨(t<e.nx∧h.get t=some b):=fun {t b} hb=>by
       rcases addEB_get h hlt' hb with ⟨x,hx,hxt,hxc⟩ | ⟨_,k2⟩
       · refine .inl ⟨by rw [←hxt];exact (b4 x hx).1,?_,by rw [←hxc,stEB];exact (b4 x hx).2.2⟩
         have hn0:(addEB .e e.hs).get t=none:=by
          cases hg:(addEB (.e:Tr CB) e.hs).get t with
          | none=>rfl
          | some c=>obtain ⟨_,_,q⟩:=g0 hg;have:=(b4 x hx).1;omega
         -- the same list on another memory
         have gen:∀ (l:List EB),(∀ x∈l,x.t<Fit)→∀ {b},(addEB h l).get t=some b→(∃ x∈l,x.t=t)→(addEB (addEB .e e.hs) l).get t=some b:=fun l=>by
          induction l with
          | nil=>intro _ b _ hx;obtain ⟨x,hx,_⟩:=hx;cases hx
          | cons y l ih =>
            intro hl b hb hx
            have hb':((addEB h l).set (some y.cb) Fit y.t).get t=some b:=hb
            show ((addEB (addEB .e e.hs) l).set (some y.cb) Fit y.t).get t=some b
            rw [Tr.get_set _ _ _ _ _ (hl y (List.mem_cons_self ..))] at hb' ⊢
            by_cases e:t=y.t
            · rw [if_pos e] at hb' ⊢;exact hb'
            rw [if_neg e] at hb' ⊢
            obtain ⟨x,hx,hxt⟩:=hx
            rcases List.mem_cons.1 hx with rfl | hx
            · exact absurd hxt.symm e
            exact ih (fun z hz=>hl z (List.mem_cons_of_mem _ hz)) hb' ⟨x,hx,hxt⟩
         exact gen e.news hlt' hb ⟨x,hx,hxt⟩
       exact .inr ⟨(hm.own t b k2).1,k2⟩
     · refine ⟨e2.le,e2.fit,e2.ext,fun t b hb hs=>?_,fun p hp hun hx=>e2.old.fr p hp (fun t b hb he'=>?_) hx,fun t b hb=>?_,e2.old.sz⟩
       · rcases cases2 hb with ⟨_,_,k3,_⟩ | ⟨_,k2⟩
         · omega
         exact ⟨k2,same k2⟩
       · obtain ⟨c,k1,_⟩:=g0 hb
         exact hun t c k1 he'
       rcases cases2 hb with ⟨_,k2,_⟩ | ⟨k1,k2⟩
       · rcases e2.old.nw t b k2 with k3 | ⟨t',b',k3,k4⟩
         · exact .inl k3
         obtain ⟨c,k5,_⟩:=g0 k3
         exact .inr ⟨t',c,k5,k4⟩
       exact .inr ⟨t,b,k2,by rw [e2.ext t k1]⟩
     have place:∀ {t b},(addEB (addEB .e e.hs) e.news).get t=some b→e.nx≤t→∀ t' b',h.get t'=some b'→(ρ' t).1≠(ρ t').1:=fun {t b} hb htn t' b' hb' he'=>by
      rcases e2.old.nw t b hb with k3 | ⟨t2,b2,k3,k4⟩
      · have:=hm.lt hb';omega
      obtain ⟨c,k5,k6⟩:=g0 k3
      obtain ⟨b3',k7⟩:=addEB_has (addEB .e e.hs) hlt' (.inr ⟨b2,k3⟩)
      have:=e4.one t t2 _ _ hb k7 (by rw [e2.ext t2 k6];exact k4.symm)
      omega
     refine ⟨e4.upd,fun t b hb=>?_,fun t t' b b' hb hb' he'=>?_,e4.imm,e4.nod,fun c hc=>⟨(e4.kept c hc).1,(e4.kept c hc).2.1,fun t b hb=>?_⟩⟩
     · rcases cases2 hb with ⟨_,k2,_⟩ | ⟨k1,k2⟩
       · exact e4.own t b k2
       obtain ⟨q1,q2,q3,o,q4,q5⟩:=hm.own t b k2
       rw [e2.ext t k1]
       exact ⟨Nat.lt_of_lt_of_le q1 e2.le,Nat.lt_of_lt_of_le q2 e2.le,q3,o,(same k2).trans q4,q5.up e2.le e2.ext⟩
     · rcases cases2 hb with ⟨j1,k2,_⟩ | ⟨k1,k2⟩ <;> rcases cases2 hb' with ⟨j1',k2',_⟩ | ⟨k1',k2'⟩
       · exact e4.one t t' b b' k2 k2' he'
       · rw [e2.ext t' k1'] at he'
         exact absurd he' (place k2 j1 t' b' k2')
       · rw [e2.ext t k1] at he'
         exact absurd he'.symm (place k2' j1' t b k2)
       rw [e2.ext t k1,e2.ext t' k1'] at he'
       exact hm.one t t' b b' k2 k2' he'
     rcases cases2 hb with ⟨_,k2,_⟩ | ⟨k1,k2⟩
     · exact (e4.kept c hc).2.2 t b k2
     rw [e2.ext t k1];exact (hm.kept c hc).2.2 t b k2
   · exact hr
 | _=>exact hr
noncomputable def runM (P:Program) (pr:Prims) (mm:List Ent) (F:Nat):Cmd→Res:=Nat.rec (motive:=fun _=>Cmd→Res) (fun _=>.bad 0 []) (fun _ r c=>memo mm c (step P pr (dirC P pr 1000000 r) c)) F
theorem runM_tru (hpr:PrimOk P Φ pr) {mm:List Ent} (hmm:MemoOk P Φ mm) (F:Nat):Tru P Φ (runM P pr mm F):=by
 induction F with
 | zero=>exact fun c=>does_bad c 0 []
 | succ F r=>exact fun c=>memo_ok hmm (step_tru hpr (dirC_tru hpr _ r) c)
noncomputable def runE (P:Program) (pr:Prims) (mm:List Ent) (F:Nat) (c:Cmd):Res:=step P pr (dirC P pr 1000000 (runM P pr mm F)) c
noncomputable def chkE (e:Ent) (r:Res):Bool:=entB e && (match r with
 | .ret v h nx=>eqV v e.v && (Nat.beq nx e.nx' && (allB (hasEB true h) e.hs && allB (hasEB false h) e.news))
 | _=>false)
theorem entry_ok (hpr:PrimOk P Φ pr) {mm:List Ent} (hmm:MemoOk P Φ mm) (F:Nat) (e:Ent) (h:chkE e (runE P pr mm F (.call e.f e.args (addEB .e e.hs) e.nx))=true):EntOk P Φ e:=by
 have H:Does1 P Φ (.call e.f e.args (addEB .e e.hs) e.nx) (runE P pr mm F (.call e.f e.args (addEB .e e.hs) e.nx)):=step_tru hpr (dirC_tru hpr _ (runM_tru hpr hmm F)) _
 unfold chkE at h
 rw [Bool.and_eq_true] at h
 obtain ⟨hb,h⟩:=h
 refine ⟨hb,?_⟩
 obtain ⟨b1,b2,b3,b4⟩:=entB_ok hb
 revert H h
 generalize runE P pr mm F (.call e.f e.args (addEB .e e.hs) e.nx)=r
 intro H h
 cases r with
 | bad=>cases h
 | ok=>cases h
 | ret v h' nx' =>
   simp only [Bool.and_eq_true] at h
   obtain ⟨h1,h2,h3,h4⟩:=h
   have e1:=eqV_ok h1
   have e2:=beqN h2
   subst e1 e2
   refine ⟨H.1,fun ρ w0 w vs hm hk hfit=>(H.2 ρ w0 w vs hm hk hfit).mono fun ex w' ⟨u,ρ',k1,k2,k3,k4⟩=>⟨u,ρ',k1,?_,k3,?_⟩⟩
   all_goals
    have hlt:∀ x∈e.hs,x.t<Fit:=fun x hx=>Nat.lt_of_lt_of_le (b3 x hx).1 (Nat.le_trans b1 b2)
    have hlt':∀ x∈e.news,x.t<Fit:=fun x hx=>Nat.lt_of_lt_of_le (b4 x hx).2.1 b2
    have key:∀ {t b},(addEB (addEB .e e.hs) e.news).get t=some b→∃ x:EB,x.t=t∧x.cb=b∧((x∈e.news∧hasEB false h' x=true)∨(x∈e.hs∧hasEB true h' x=true∧(addEB .e e.hs).get t=some b)):=fun {t b} hb=>by
     rcases addEB_get (addEB .e e.hs) hlt' hb with ⟨x,hx,hxt,hxc⟩ | ⟨_,q⟩
     · exact ⟨x,hxt,hxc,.inl ⟨hx,allB_iff.1 h4 x hx⟩⟩
     obtain ⟨x,hx,hxt,hxc⟩:=(addEB_get .e hlt q).elim id fun h=>by cases h.2
     exact ⟨x,hxt,hxc,.inr ⟨hx,allB_iff.1 h3 x hx,q⟩⟩
    have has:∀ {t b},(addEB (addEB .e e.hs) e.news).get t=some b→∃ c,h'.get t=some c∧∀ (s:Nat) (o:Obj),DB e.nx' ρ' s c o→DB e.nx' ρ' s b o:=fun {t b} hb=>by
     obtain ⟨x,rfl,rfl,q⟩:=key hb
     rcases q with ⟨_,q⟩ | ⟨_,q,_⟩
     · obtain ⟨c,q1,_,q2⟩:=hasEB_ok q;exact ⟨c,q1,q2 _ _⟩
     obtain ⟨c,q1,_,q2⟩:=hasEB_ok q;exact ⟨c,q1,q2 _ _⟩
   · refine ⟨k2.le,k2.fit,k2.ext,fun t b hb hs=>?_,k2.old.fr,fun t b hb=>?_,k2.old.sz⟩
     · obtain ⟨x,rfl,rfl,q⟩:=key hb
       rw [stEB] at hs
       rcases q with ⟨q,_⟩ | ⟨q0,q,q3⟩
       · have:=(b4 x q).2.2.1;omega
       obtain ⟨c,q1,q2,_⟩:=hasEB_ok q
       exact ⟨q3,(k2.old.old x.t c q1 (by rw [q2 rfl];exact hs)).2⟩
     obtain ⟨c,q1,_⟩:=has hb
     exact k2.old.nw t c q1
   refine ⟨k4.upd,fun t b hb=>?_,fun t t' b b' hb hb' he'=>?_,k4.imm,k4.nod,fun c hc=>⟨(k4.kept c hc).1,(k4.kept c hc).2.1,fun t b hb=>?_⟩⟩
   · obtain ⟨c,q1,q2⟩:=has hb
     obtain ⟨g1,g2,g3,o,g4,g5⟩:=k4.own t c q1
     refine ⟨g1,?_,g3,o,g4,q2 _ _ g5⟩
     obtain ⟨x,rfl,rfl,q⟩:=key hb
     rw [stEB]
     rcases q with ⟨q,_⟩ | ⟨q,_⟩
     · exact (b4 x q).2.2.2
     have:=(b3 x q).2;omega
   · obtain ⟨c,q1,_⟩:=has hb
     obtain ⟨c',q1',_⟩:=has hb'
     exact k4.one t t' c c' q1 q1' he'
   obtain ⟨c',q1,_⟩:=has hb
   exact (k4.kept c hc).2.2 t c' q1
theorem MemoOk.nil:MemoOk P Φ []:=fun e h=>by cases h
theorem MemoOk.cons {e:Ent} {mm:List Ent} (h:EntOk P Φ e) (k:MemoOk P Φ mm):MemoOk P Φ (e :: mm):=fun x hx=>by
 rcases List.mem_cons.1 hx with rfl | hx
 · exact h
 exact k x hx
theorem does_trueM {f:Nat} (pr:Prims) (hpr:PrimOk P Φ pr) {mm:List Ent} (hmm:MemoOk P Φ mm) (F:Nat) (h:isTrue (runM P pr mm F (.call f .nil .e 0))=true) (G:Imm) (hG:Φ G):Does P f [] G [] (fun v G' Ho=>v=.bool true∧G'=G∧Ho=[]):=
 true_does (runM_tru hpr hmm F _) h G hG
end
end Go.Sl.Ev
namespace Go.Proofs.YtfdcckcadfhpeaaGreatDoor
open Go Go.Sl Go.Sl.Ev
set_option maxRecDepth 1000000
noncomputable def cI (l:List Int):CV:=List.rec .nil (fun x _ r=>.cons (.int .i64 x) r) l
noncomputable def cB (l:List Int):CV:=List.rec .nil (fun x _ r=>.cons (.int .u8 x) r) l
noncomputable def tzF (l:CV):Option CV:=match l with
 | .cons (.int .u64 c) .nil=>bif ieq (powC c) 0 then none else some (.int .i64 (powC c))
 | _=>none
noncomputable def tzP:Prims:=[(188,tzF)]
theorem tz_ok:PrimOk Tryz.prog TabOk tzP:=by
 intro f g h
 have h':(bif Nat.beq 188 f then some tzF else none)=some g:=h
 rcases bif_cases h' with ⟨h1,h2⟩ | ⟨_,h2⟩
 · have:=Nat.eq_of_beq_eq_true h1
   subst this
   cases h2
   refine ⟨T.fn188,fun args v hv G hG nx ρ vs hk=>?_⟩
   unfold tzF at hv
   split at hv
   · rename_i c
     rcases bif_cases hv with ⟨_,h2⟩ | ⟨h1,h2⟩
     · cases h2
     cases h2
     rw [ieq_eq,decide_eq_false_iff_not] at h1
     obtain ⟨u,r,rfl,k1,k2⟩:=DL.cons.1 hk.2
     have e1:=DV.int.1 k1
     have e2:=DL.nil.1 k2
     subst e1 e2
     exact ⟨_,kn_int,c188 G hG c h1⟩
   cases hv
 cases h2
end Go.Proofs.YtfdcckcadfhpeaaGreatDoor
set_option maxRecDepth 100000
namespace Go.Proofs.YtfdcckcadfhpeaaGreatDoor
open Go Go.Sl
theorem longU_no {pn:Nat} {x y z:PH} (h:longU pn [x,y,z]=false):x.cn≤600∧y.cn≤600∧z.cn≤600∧pn≤40:=by
 unfold longU at h
 simp only [Bool.or_eq_false_iff,decide_eq_false_iff_not,List.map_cons,List.map_nil,List.sum_cons,List.sum_nil] at h
 omega
set_option maxHeartbeats 4000000
attribute [local irreducible] EvalP InterpP WrongP rightP RightL longU UnitP
theorem c3of (hWorks:∀ G,TabOk G→Does Tryz.prog 10 [] G [] (fun v G' Ho=>v=.bool (decide (1=1))∧G'=G∧Ho=[])) (G:Imm) (hT:TabOk G) (k1 k2:Int) (pl:List R2) (pa:Option Addr) (pc:Nat) (xp yp zp:PV) (xac xao yac yao zac zao:Option Addr) (xcc xoc ycc yoc zcc zoc:Nat) (hpa:Arr G pa pl) (hpc:pl.length≤pc) (hpl:pl.length≤1048576) (hxc:Arr G xac xp.code) (hxo:Arr G xao xp.outs) (hx1:xp.code.length≤1048576) (hx2:xp.outs.length≤1048576) (hyc:Arr G yac yp.code) (hyo:Arr G yao yp.outs) (hy1:yp.code.length≤1048576) (hy2:yp.outs.length≤1048576) (hzc:Arr G zac zp.code) (hzo:Arr G zao zp.outs) (hz1:zp.code.length≤1048576) (hz2:zp.outs.length≤1048576) :
 Does Tryz.prog 3 [.agg #[.int .i64 k1,.int .i64 k2,.slice pa pl.length pc,.int .i64 xp.ins,.int .i64 xp.regs,.slice xac xp.code.length xcc,.slice xao xp.outs.length xoc,.int .i64 yp.ins,.int .i64 yp.regs,.slice yac yp.code.length ycc,.slice yao yp.outs.length yoc,.int .i64 zp.ins,.int .i64 zp.regs,.slice zac zp.code.length zcc,.slice zao zp.outs.length zoc]] G [] (fun v G' Ho=>v=.bool true∧Ho=[]):=by
 refine Does.enter Tryz.func3 rfl Tryz.ntmps3 rfl (fun w=>?_)
 refine Wc.gl 2 [] ?_
 refine Wl.box 0 rfl rfl rfl (fun b1=>?_)
 refine Wl.gl 6 [] ?_
 refine Wl.k0 rfl (hWorks _ hT) ?_
 refine Wl.q rfl (Qy.notD rfl) ?_
 refine Wl.gl 9 [0,0] ?_
 refine Wl.k0 rfl (c11 _ k1 k2 pa pl.length pc ⟨xp.ins,xp.regs,xac,xp.code.length,xcc,xao,xp.outs.length,xoc⟩ ⟨yp.ins,yp.regs,yac,yp.code.length,ycc,yao,yp.outs.length,yoc⟩ ⟨zp.ins,zp.regs,zac,zp.code.length,zcc,zao,zp.outs.length,zoc⟩ (show xp.code.length≤1099511627776 by omega) (show yp.code.length≤1099511627776 by omega) (show zp.code.length≤1099511627776 by omega)) ?_
 refine Wl.gc 2 [] ?_
 refine Wc.ite rfl (fun hc1=>?_) (fun hc1=>?_)
 refine Wc.ga 7 [] ?_
 rotate_left
 refine Wc.gl 5 [0] ?_
 rotate_left
 · refine Ar.e1 ?_
   exact ⟨rfl,rfl⟩
 obtain ⟨g1,g2,g3,g4⟩:=longU_no (by assumption)
 dsimp only at g1 g2 g3
 refine Wl.k 1 rfl (c12 _ k1 k2 pa pc pl ⟨xp.ins,xp.regs,xac,xp.code.length,xcc,xao,xp.outs.length,xoc⟩ ⟨yp.ins,yp.regs,yac,yp.code.length,ycc,yao,yp.outs.length,yoc⟩ ⟨zp.ins,zp.regs,zac,zp.code.length,zcc,zao,zp.outs.length,zoc⟩ xp yp zp hpa hpl ⟨rfl,rfl,rfl,rfl,hxc,hxo⟩ ⟨rfl,rfl,rfl,rfl,hyc,hyo⟩ ⟨rfl,rfl,rfl,rfl,hzc,hzo⟩ hx1 hx2 hy1 hy2 hz1 hz2) (fun v1 G1 Ho1 hle1 hp=>?_)
 obtain ⟨s1,d1,⟨ui,ur,uac,ucn,ucc,uao,uon,uoc⟩,⟨vi,vr,vac,vcn,vcc,vao,von,voc⟩,⟨qi,qr,qac,qcn,qcc,qao,qon,qoc⟩,rfl,hs1,hsd1,hu,hv,hq,rfl⟩:=hp
 obtain ⟨e1,e2,e3,e4,huc,huo⟩:=hu
 dsimp only at e1 e2 e3 e4 huc huo
 subst e1 e2 e3 e4
 obtain ⟨e1,e2,e3,e4,hvc,hvo⟩:=hv
 dsimp only at e1 e2 e3 e4 hvc hvo
 subst e1 e2 e3 e4
 obtain ⟨e1,e2,e3,e4,hqc,hqo⟩:=hq
 dsimp only at e1 e2 e3 e4 hqc hqo
 subst e1 e2 e3 e4
 replace hpa:=hpa.up hle1
 replace hxc:=hxc.up hle1
 replace hxo:=hxo.up hle1
 replace hyc:=hyc.up hle1
 replace hyo:=hyo.up hle1
 replace hzc:=hzc.up hle1
 replace hzo:=hzo.up hle1
 refine Wl.re 13 rfl (show _=Value.agg #[.int .i64 k1,.int .i64 k2,.slice s1 pl.length d1,.int .i64 xp.ins,.int .i64 xp.regs,.slice uac xp.code.length ucc,.slice uao xp.outs.length uoc,.int .i64 yp.ins,.int .i64 yp.regs,.slice vac yp.code.length vcc,.slice vao yp.outs.length voc,.int .i64 zp.ins,.int .i64 zp.regs,.slice qac zp.code.length qcc,.slice qao zp.outs.length qoc] from rfl) ?_
 refine Wl.alloc 1 rfl T.zero28 (fun b2=>?_)
 refine Wl.gl 6 [1,1] ?_
 refine Wl.k 2 rfl (c13 _ _ _ _ _ _ xp yp zp _ _ _ _ _ _ _ _ _ _ _ _ hs1 hsd1 hpl huc huo (by omega) (by omega) hvc hvo (by omega) (by omega) hqc hqo (by omega) (by omega)) (fun v2 G2 Ho2 hle2 hp=>?_)
 obtain ⟨rfl,rfl⟩:=hp
 replace hs1:=hs1.up hle2
 replace huc:=huc.up hle2
 replace huo:=huo.up hle2
 replace hvc:=hvc.up hle2
 replace hvo:=hvo.up hle2
 replace hqc:=hqc.up hle2
 replace hqo:=hqo.up hle2
 replace hpa:=hpa.up hle2
 replace hxc:=hxc.up hle2
 replace hxo:=hxo.up hle2
 replace hyc:=hyc.up hle2
 replace hyo:=hyo.up hle2
 replace hzc:=hzc.up hle2
 replace hzo:=hzo.up hle2
 refine Wl.gl 10 [0] ?_
 refine Wl.k 2 rfl (c14 _ _ _ _ _ _ xp yp zp _ _ _ _ _ _ _ _ _ _ _ _ hpa hpc hpl hxc hxo (by omega) (by omega) hyc hyo (by omega) (by omega) hzc hzo (by omega) (by omega)) (fun v3 G3 Ho3 hle3 hp=>?_)
 obtain ⟨rfl,rfl⟩:=hp
 replace hs1:=hs1.up hle3
 replace huc:=huc.up hle3
 replace huo:=huo.up hle3
 replace hvc:=hvc.up hle3
 replace hvo:=hvo.up hle3
 replace hqc:=hqc.up hle3
 replace hqo:=hqo.up hle3
 replace hpa:=hpa.up hle3
 replace hxc:=hxc.up hle3
 replace hxo:=hxo.up hle3
 replace hyc:=hyc.up hle3
 replace hyo:=hyo.up hle3
 replace hzc:=hzc.up hle3
 replace hzo:=hzo.up hle3
 refine Wl.gl 13 [] ?_
 refine Wl.yes 27 rfl (by first | assumption | omega) ?_
 refine Wl.ll0 8 [] ?_
 refine Wl.yes 32 rfl (by first | assumption | omega) ?_
 refine Wl.ll0 5 [1,0] ?_
 refine Wl.k0 rfl (c15 _ _ _ _ _ _ _ _ xp yp zp _ _ _ _ _ _ _ _ _ _ _ _ _ _ _ _ _ _ _ _ _ _ _ _ hs1 hpa hpl huc huo hvc hvo hqc hqo hxc hxo hyc hyo hzc hzo hx1 hx2 hy1 hy2 hz1 hz2) ?_
 refine Wl.ga 5 [] ?_
 refine Ar.e1 ?_
 exact ⟨by simp,rfl⟩
end Go.Proofs.YtfdcckcadfhpeaaGreatDoor
