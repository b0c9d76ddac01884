import Derived.Test.YtbaaheidifacaaaGreatQRefB
set_option linter.defProp false
set_option linter.unusedVariables false
set_option linter.unusedSimpArgs false
set_option maxRecDepth 100000
set_option maxHeartbeats 12800000
namespace Go.Proofs.YtbaaheidifacaaaGreat
variable {N W b cp ga gb gp j lf ln mc o sc:Nat} {P:PD} {Q:Exit→Act→World→Prop} {a3 a4 b3 b4 b5 b6:Int} {is2 mv:List Nat} {ma sa:Option Addr} {ops:Array Oper} {v0 v1 v13 v16 v17 v18 v19 v2 v20 v21 v22 v23 v24 v25 v26 v27 v28 v29 v3 v30 v31 v32 v33 v34 v35 v36 v37 v38 v39 v4 v40 v41 v42 v43 v44 v45 v46 v47 v48 v49 v50 v51 v52 v53 v54 v55 v56 v57 v58 v59 v6 v60 v61 v62 v63 v64 v65 v66 v67 v68 v69 v7 v70 v71 v72 v73 v74 v75 v76 v77 v78 v79 v8 v80 v81 v82 v83 v84 v85 v86 v87 v88 v89 x100 x101 x102 x103 x104 x105 x106 x107 x108 x109 x110 x111 x112 x113 x114 x115 x116 x117 x118 x119 x120 x121 x122 x123 x124 x125 x126 x127 x128 x129 x130 x131 x132 x133 x134 x135 x136 x137 x138 x139 x140 x141 x142 x143 x144 x145 x146 x147 x148 x149 x150 x151 x152 x153 x154 x155 x156 x157 x158 x159 x160 x161 x162 x163 x164 x165 x166 x167 x168 x169 x170 x171 x172 x173 x174 x175 x176 x177 x178 x179 x180 x181 x182 x183 x184 x185 x186 x187 x188 x189 x190 x191 x192 x193 x194 x195 x196 x197 x198 x199 x200 x201 x202 x203 x204 x205 x206 x207 x208 x209 x210 x211 x212 x213 x214 x215 x216 x217 x218 x219 x90 x91 x92 x93 x94 x95 x96 x97 x98 x99:Value} {w:World}
open Go.RowKit
def adY (n:Nat):Code→Option Code
 | .region id ops d=>if id=n then some (.region id ops d) else none
 | .seq a b=>match adY n a with|some x=>some x|none=>adY n b
 | .cond _ a b=>match adY n a with|some x=>some x|none=>adY n b
 | .block _ b=>adY n b
 | .loop b=>adY n b
 |_=>none
def opsOf:Code→List Oper
 | .region _ ops _=>ops.toList
 |_=>[]
noncomputable def adT:Code:=((Tryz.f3.body.bind (adY 17)).getD .skip)
def adW (md:Region.Mode) (ops:Array Oper) (mv:List Nat) (z:Nat):List Nat→Array Bool→Bool
 |[],_=>true
 |i::is,listed=>(if mv.contains i then (Region.ready md ops listed)==[i] && !(i==z) else Region.free md ops listed i && (Region.ready md ops listed).contains i) && adW md ops mv z is (listed.setIfInBounds i true)
def adV:List Nat→Array Bool→Array Bool
 |[],listed=>listed
 |i::is,listed=>adV is (listed.setIfInBounds i true)
theorem adU {md:Region.Mode} {z:Nat}:∀{D:List Nat} {listed:Array Bool},adW md ops mv z D listed=true->Az md ops mv z is2 (adV D listed)=true->Az md ops mv z (D++is2) listed=true
 |[],listed,_,h=>h
 |i::is,listed,J,O=>by
  unfold adW at J;rw[fO];unfold Az;rw[dv] at J⊢;refine⟨?_,adU J.2 O⟩;have I:=J.1
  split at I
  ·rename_i hm
   rw[if_pos hm];rw[dv] at I⊢;exact⟨I.1,by rw[I.2];rfl⟩
  ·rename_i hm
   rw[if_neg hm];exact I
theorem aeB {D I:World} (h:Below W w D) (J:Bz D I) (O:W<=D.heap.size):Below W w I:=h.trans (J.mono O)
theorem ad3 
  (HP:Hid (iZ w P ma sa))
  (EW:Hid (W=w.heap.size))
  (ax:Hid (P.oY (ln:Int) a4=0))
  (ay:Hid (P.oY (lf:Int) b4=0))
  (z0:∀u,Below W w u->u.cell? ⟨gp,0,none⟩=some (.string (str P.code)))
  (z1:∀u,Below W w u->u.cell? ⟨gp,1,none⟩=some (.slice ma P.E.length mc))
  (z2:∀u,Below W w u->u.cell? ⟨gp,2,none⟩=some (Iz P.tick))
  (z3:∀u,Below W w u->u.cell? ⟨gp,3,none⟩=some (Iz P.low))
  (z4:∀u,Below W w u->u.cell? ⟨gp,4,none⟩=some (Iz P.high))
  (z5:∀u,Below W w u->u.cell? ⟨gp,5,none⟩=some (Iz P.wide))
  (z6:∀u,Below W w u->u.cell? ⟨gp,6,none⟩=some (Iz P.rule))
  (z7:∀u,Below W w u->u.cell? ⟨gp,7,none⟩=some (Iz P.top))
  (z8:∀u,Below W w u->u.cell? ⟨gp,8,none⟩=some (Iz P.least))
  (z9:∀u,Below W w u->u.cell? ⟨gp,9,none⟩=some (Iz P.part))
  (I:∀u,Below W w u->u.cell? ⟨gp,10,none⟩=some (.slice sa P.settle.length sc))
  (a0:∀u,Below W w u->u.cell? ⟨ga,4,none⟩=some (Iz a4))
  (J:∀u,Below W w u->u.cell? ⟨gb,4,none⟩=some (Iz b4))
  (hQ:∀{x90 x91 x92 x93 x94 x95 x96 x97 x98 x99 x100 x101 x102 x103 x104 x105 x106 x107 x108 x109 x110 x111 x112 x113 x114 x115 x116 x117 x118 x119 x120 x121 x122 x123 x124 x125 x126 x127 x128 x129 x130 x131 x132 x133 x134 x135 x136 x137 x138 x139 x140 x141 x142 x143 x144 x145 x146 x147 x148 x149 x150 x151 x152 x153 x154 x155 x156 x157 x158 x159 x160 x161 x162 x163 x164 x165 x166 x167 x168 x169 x170 x171 x172 x173 x174 x175 x176 x177 x178 x179 x180 x181 x182 x183 x184 x185 x186 x187 x188 x189 x190 x191 x192 x193 x194 x195 x196 x197 x198 x199 x200 x201 x202 x203 x204 x205 x206 x207 x208 x209 x210 x211 x212 x213 x214 x215 x216 x217:Value} {w':World},Below W w w'->Q .normal ⟨#[v0,v1,v2,v3,v4, Pz gp,v6,v7,v8, .slice (some ⟨b,o,none⟩) N cp,Iz (j:Int),Iz (ln:Int),Iz (lf:Int),v13, Pz ga, Pz gb,v16,v17,v18,v19,v20,v21,v22,v23,v24,v25,v26,v27,v28,v29,v30,v31,v32,v33,v34,v35,v36,v37,v38,v39,v40,v41,v42,v43,v44,v45,v46,v47,v48,v49,v50,v51,v52,v53,v54,v55,v56,v57,v58,v59,v60,v61,v62,v63,v64,v65,v66,v67,v68,v69,v70,v71,v72,v73,v74,v75,v76,v77,v78,v79,v80,v81,v82,v83,v84,v85,v86,v87,v88,v89,x90,x91,x92,x93,x94,x95,x96,x97,x98,x99,x100,x101,x102,x103,x104,x105,x106,x107,x108,x109,x110,x111,x112,x113,x114,x115,x116,x117,x118,x119,x120,x121,x122,x123,x124,x125,x126,x127,x128,x129,x130,x131,x132,x133,x134,x135,x136,x137,x138,x139,x140,x141,x142,x143,x144,x145,x146,x147,x148,x149,x150,x151,x152,x153,x154,x155,x156,x157,x158,x159,x160,x161,x162,x163,x164,x165,x166,x167,x168,x169,x170,x171,x172,x173,x174,x175,x176,x177,x178,x179,x180,x181,x182,x183,x184,x185,x186,x187,x188,x189,x190,x191,x192,x193,x194,x195,x196,x197,x198,x199,x200,x201,x202,x203,x204,x205,x206,x207,x208,x209,x210,x211,x212,x213,x214,x215,x216,x217, .bool false,x219],[]⟩ w'):
  fQ Tryz.prog (opsOf adT) Q (Below W) [118,126] 99999 [113,114,115,116,117,118,119,120,121,122,123,124,125,126,127,128] ⟨#[v0,v1,v2,v3,v4, Pz gp,v6,v7,v8, .slice (some ⟨b,o,none⟩) N cp,Iz (j:Int),Iz (ln:Int),Iz (lf:Int),v13, Pz ga, Pz gb,v16,v17,v18,v19,v20,v21,v22,v23,v24,v25,v26,v27,v28,v29,v30,v31,v32,v33,v34,v35,v36,v37,v38,v39,v40,v41,v42,v43,v44,v45,v46,v47,v48,v49,v50,v51,v52,v53,v54,v55,v56,v57,v58,v59,v60,v61,v62,v63,v64,v65,v66,v67,v68,v69,v70,v71,v72,v73,v74,v75,v76,v77,v78,v79,v80,v81,v82,v83,v84,v85,v86,v87,v88,v89,x90,x91,x92,x93,x94,x95,x96,x97,x98,x99,x100,x101,x102,x103,x104,x105,x106,x107,x108,x109,x110,x111,x112,x113,x114,x115,x116,x117,x118,x119,x120,x121,x122,x123,x124,x125,x126,x127,x128,x129,x130,x131,x132,x133,x134,x135,x136,x137,x138,x139,x140,x141,x142,x143,x144,x145,x146,x147,x148,x149,x150,x151,x152,x153,x154,x155,x156,x157,x158,x159,x160,x161,x162,x163,x164,x165,x166,x167,x168,x169,x170,x171,x172,x173,x174,x175,x176,x177,x178,x179,x180,x181,x182,x183,x184,x185,x186,x187,x188,x189,x190,x191,x192,x193,x194,x195,x196,x197,x198,x199,x200,x201, .bool false,x203,x204,x205,x206,x207,x208,x209,x210,x211,x212,x213,x214,x215,x216,x217,x218,x219],[]⟩ w:=by
 conv=>arg 2;arg 1;whnf
 simp only[opsOf,List.toList_toArray]
 iterate 5 (refine Zt ?_;(try simp only[Zu]))
 clear a0;refine Ym fun K hK=>?_;refine(pQ P ma mc sa sc (ln:Int) a4 w HP).mono ?_;rw[ax.h];rintro e D⟨rfl,O⟩;have bW:Below W w D:=O.mono (bu EW);refine Yo hK (bW) ?_;replace z0:=fun u (hu:Below W D u)=>z0 u (bW.trans hu);replace z1:=fun u (hu:Below W D u)=>z1 u (bW.trans hu);replace z2:=fun u (hu:Below W D u)=>z2 u (bW.trans hu);replace z3:=fun u (hu:Below W D u)=>z3 u (bW.trans hu);replace z4:=fun u (hu:Below W D u)=>z4 u (bW.trans hu);replace z5:=fun u (hu:Below W D u)=>z5 u (bW.trans hu);replace z6:=fun u (hu:Below W D u)=>z6 u (bW.trans hu);replace z7:=fun u (hu:Below W D u)=>z7 u (bW.trans hu);replace z8:=fun u (hu:Below W D u)=>z8 u (bW.trans hu);replace z9:=fun u (hu:Below W D u)=>z9 u (bW.trans hu);replace I:=fun u (hu:Below W D u)=>I u (bW.trans hu);replace J:=fun u (hu:Below W D u)=>J u (bW.trans hu)
 iterate 7 (refine Zt ?_;(try simp only[Zu]))
 clear z0 z1 z2 z3 z4 z5 z6 z7 z8 z9 I J;refine Ym fun K hK=>?_;refine(pQ P ma mc sa sc (lf:Int) b4 D (HP.below O)).mono ?_;rw[ay.h];rintro e w8⟨rfl,b8⟩;have bV:Below W w w8:=aeB bW b8 (EW.h▸O.size);refine Yo hK (b8.mono (EW.h▸O.size)) ?_
 iterate 2 (refine Zt ?_;(try simp only[Zu]))
 refine aT ?_;exact hQ bV
theorem ad4 
  (HP:Hid (iZ w P ma sa))
  (EW:Hid (W=w.heap.size))
  (D:Hid (P.oY (ln:Int) a4=0))
  (I:Hid (P.oY (lf:Int) b4=0))
  (z0:∀u,Below W w u->u.cell? ⟨gp,0,none⟩=some (.string (str P.code)))
  (z1:∀u,Below W w u->u.cell? ⟨gp,1,none⟩=some (.slice ma P.E.length mc))
  (z2:∀u,Below W w u->u.cell? ⟨gp,2,none⟩=some (Iz P.tick))
  (z3:∀u,Below W w u->u.cell? ⟨gp,3,none⟩=some (Iz P.low))
  (z4:∀u,Below W w u->u.cell? ⟨gp,4,none⟩=some (Iz P.high))
  (z5:∀u,Below W w u->u.cell? ⟨gp,5,none⟩=some (Iz P.wide))
  (z6:∀u,Below W w u->u.cell? ⟨gp,6,none⟩=some (Iz P.rule))
  (z7:∀u,Below W w u->u.cell? ⟨gp,7,none⟩=some (Iz P.top))
  (z8:∀u,Below W w u->u.cell? ⟨gp,8,none⟩=some (Iz P.least))
  (z9:∀u,Below W w u->u.cell? ⟨gp,9,none⟩=some (Iz P.part))
  (J:∀u,Below W w u->u.cell? ⟨gp,10,none⟩=some (.slice sa P.settle.length sc))
  (O:∀u,Below W w u->u.cell? ⟨ga,4,none⟩=some (Iz a4))
  (ax:∀u,Below W w u->u.cell? ⟨gb,4,none⟩=some (Iz b4))
  (ay:∀u,Below W w u->u.cell? ⟨gb,6,none⟩=some (Iz b6))
  (y4:∀u,Below W w u->u.cell? ⟨b,o+j*8+4,none⟩=some (Iz (a4 - b4)))
  (y6:∀u,Below W w u->u.cell? ⟨b,o+j*8+6,none⟩=some (Iz b6))
  (a0:IntKind.i64.wrap (a4 - b4)=a4 - b4)
  (i7:(j:Int)<N)
  (hQ:∀{x90 x91 x92 x93 x94 x95 x96 x97 x98 x99 x100 x101 x102 x103 x104 x105 x106 x107 x108 x109 x110 x111 x112 x113 x114 x115 x116 x117 x118 x119 x120 x121 x122 x123 x124 x125 x126 x127 x128 x129 x130 x131 x132 x133 x134 x135 x136 x137 x138 x139 x140 x141 x142 x143 x144 x145 x146 x147 x148 x149 x150 x151 x152 x153 x154 x155 x156 x157 x158 x159 x160 x161 x162 x163 x164 x165 x166 x167 x168 x169 x170 x171 x172 x173 x174 x175 x176 x177 x178 x179 x180 x181 x182 x183 x184 x185 x186 x187 x188 x189 x190 x191 x192 x193 x194 x195 x196 x197 x198 x199 x200 x201 x202 x203 x204 x205 x206 x207 x208 x209 x210 x211 x212 x213 x214 x215 x216 x217:Value} {w':World},Below W w w'->Q .normal ⟨#[v0,v1,v2,v3,v4, Pz gp,v6,v7,v8, .slice (some ⟨b,o,none⟩) N cp,Iz (j:Int),Iz (ln:Int),Iz (lf:Int),v13, Pz ga, Pz gb,v16,v17,v18,v19,v20,v21,v22,v23,v24,v25,v26,v27,v28,v29,v30,v31,v32,v33,v34,v35,v36,v37,v38,v39,v40,v41,v42,v43,v44,v45,v46,v47,v48,v49,v50,v51,v52,v53,v54,v55,v56,v57,v58,v59,v60,v61,v62,v63,v64,v65,v66,v67,v68,v69,v70,v71,v72,v73,v74,v75,v76,v77,v78,v79,v80,v81,v82,v83,v84,v85,v86,v87,v88,v89,x90,x91,x92,x93,x94,x95,x96,x97,x98,x99,x100,x101,x102,x103,x104,x105,x106,x107,x108,x109,x110,x111,x112,x113,x114,x115,x116,x117,x118,x119,x120,x121,x122,x123,x124,x125,x126,x127,x128,x129,x130,x131,x132,x133,x134,x135,x136,x137,x138,x139,x140,x141,x142,x143,x144,x145,x146,x147,x148,x149,x150,x151,x152,x153,x154,x155,x156,x157,x158,x159,x160,x161,x162,x163,x164,x165,x166,x167,x168,x169,x170,x171,x172,x173,x174,x175,x176,x177,x178,x179,x180,x181,x182,x183,x184,x185,x186,x187,x188,x189,x190,x191,x192,x193,x194,x195,x196,x197,x198,x199,x200,x201,x202,x203,x204,x205,x206,x207,x208,x209,x210,x211,x212,x213,x214,x215,x216,x217, .bool false,x219],[]⟩ w'):
  fQ Tryz.prog (opsOf adT) Q (Below W) [118,126] 99999 [90,91,92,93,94,95,96,97,98,99,100,101,102,103,104,105,106,107,108,109,110,111,112,113,114,115,116,117,118,119,120,121,122,123,124,125,126,127,128] ⟨#[v0,v1,v2,v3,v4, Pz gp,v6,v7,v8, .slice (some ⟨b,o,none⟩) N cp,Iz (j:Int),Iz (ln:Int),Iz (lf:Int),v13, Pz ga, Pz gb,v16,v17,v18,v19,v20,v21,v22,v23,v24,v25,v26,v27,v28,v29,v30,v31,v32,v33,v34,v35,v36,v37,v38,v39,v40,v41,v42,v43,v44,v45,v46,v47,v48,v49,v50,v51,v52,v53,v54,v55,v56,v57,v58,v59,v60,v61,v62,v63,v64,v65,v66,v67,v68,v69,v70,v71,v72,v73,v74,v75,v76,v77,v78,v79,v80,v81,v82,v83,v84,v85,v86,v87,v88,v89,x90,x91,x92,x93,x94,x95,x96,x97,x98,x99,x100,x101,x102,x103,x104,x105,x106,x107,x108,x109,x110,x111,x112,x113,x114,x115,x116,x117,x118,x119,x120,x121,x122,x123,x124,x125,x126,x127,x128,x129,x130,x131,x132,x133,x134,x135,x136,x137,x138,x139,x140,x141,x142,x143,x144,x145,x146,x147,x148,x149,x150,x151,x152,x153,x154,x155,x156,x157,x158,x159,x160,x161,x162,x163,x164,x165,x166,x167,x168,x169,x170,x171,x172,x173,x174,x175,x176,x177,x178, .bool false,x180,x181,x182,x183,x184,x185,x186,x187,x188,x189,x190,x191,x192,x193,x194,x195,x196,x197,x198,x199,x200,x201,x202,x203,x204,x205,x206,x207,x208,x209,x210,x211,x212,x213,x214,x215,x216,x217,x218,x219],[]⟩ w:=by
 conv=>arg 2;arg 1;whnf
 simp only[opsOf,List.toList_toArray]
 iterate 23 (refine Zt ?_;(try simp only[Zu]))
 exact ad3 HP EW D I z0 z1 z2 z3 z4 z5 z6 z7 z8 z9 J O ax hQ
theorem ad5 
  (HP:Hid (iZ w P ma sa))
  (EW:Hid (W=w.heap.size))
  (D:Hid (P.oY (ln:Int) a4=0))
  (I:Hid (P.oY (lf:Int) b4=0))
  (z0:∀u,Below W w u->u.cell? ⟨gp,0,none⟩=some (.string (str P.code)))
  (z1:∀u,Below W w u->u.cell? ⟨gp,1,none⟩=some (.slice ma P.E.length mc))
  (z2:∀u,Below W w u->u.cell? ⟨gp,2,none⟩=some (Iz P.tick))
  (z3:∀u,Below W w u->u.cell? ⟨gp,3,none⟩=some (Iz P.low))
  (z4:∀u,Below W w u->u.cell? ⟨gp,4,none⟩=some (Iz P.high))
  (z5:∀u,Below W w u->u.cell? ⟨gp,5,none⟩=some (Iz P.wide))
  (z6:∀u,Below W w u->u.cell? ⟨gp,6,none⟩=some (Iz P.rule))
  (z7:∀u,Below W w u->u.cell? ⟨gp,7,none⟩=some (Iz P.top))
  (z8:∀u,Below W w u->u.cell? ⟨gp,8,none⟩=some (Iz P.least))
  (z9:∀u,Below W w u->u.cell? ⟨gp,9,none⟩=some (Iz P.part))
  (J:∀u,Below W w u->u.cell? ⟨gp,10,none⟩=some (.slice sa P.settle.length sc))
  (O:∀u,Below W w u->u.cell? ⟨ga,4,none⟩=some (Iz a4))
  (a2:∀u,Below W w u->u.cell? ⟨ga,6,none⟩=some (Iz b6))
  (ax:∀u,Below W w u->u.cell? ⟨gb,4,none⟩=some (Iz b4))
  (a5:∀u,Below W w u->u.cell? ⟨gb,5,none⟩=some (Iz b5))
  (ay:∀u,Below W w u->u.cell? ⟨gb,6,none⟩=some (Iz b6))
  (y4:∀u,Below W w u->u.cell? ⟨b,o+j*8+4,none⟩=some (Iz (a4 - b4)))
  (y5:∀u,Below W w u->u.cell? ⟨b,o+j*8+5,none⟩=some (Iz b5))
  (y6:∀u,Below W w u->u.cell? ⟨b,o+j*8+6,none⟩=some (Iz b6))
  (a0:IntKind.i64.wrap (a4 - b4)=a4 - b4)
  (i7:(j:Int)<N)
  (hQ:∀{x90 x91 x92 x93 x94 x95 x96 x97 x98 x99 x100 x101 x102 x103 x104 x105 x106 x107 x108 x109 x110 x111 x112 x113 x114 x115 x116 x117 x118 x119 x120 x121 x122 x123 x124 x125 x126 x127 x128 x129 x130 x131 x132 x133 x134 x135 x136 x137 x138 x139 x140 x141 x142 x143 x144 x145 x146 x147 x148 x149 x150 x151 x152 x153 x154 x155 x156 x157 x158 x159 x160 x161 x162 x163 x164 x165 x166 x167 x168 x169 x170 x171 x172 x173 x174 x175 x176 x177 x178 x179 x180 x181 x182 x183 x184 x185 x186 x187 x188 x189 x190 x191 x192 x193 x194 x195 x196 x197 x198 x199 x200 x201 x202 x203 x204 x205 x206 x207 x208 x209 x210 x211 x212 x213 x214 x215 x216 x217:Value} {w':World},Below W w w'->Q .normal ⟨#[v0,v1,v2,v3,v4, Pz gp,v6,v7,v8, .slice (some ⟨b,o,none⟩) N cp,Iz (j:Int),Iz (ln:Int),Iz (lf:Int),v13, Pz ga, Pz gb,v16,v17,v18,v19,v20,v21,v22,v23,v24,v25,v26,v27,v28,v29,v30,v31,v32,v33,v34,v35,v36,v37,v38,v39,v40,v41,v42,v43,v44,v45,v46,v47,v48,v49,v50,v51,v52,v53,v54,v55,v56,v57,v58,v59,v60,v61,v62,v63,v64,v65,v66,v67,v68,v69,v70,v71,v72,v73,v74,v75,v76,v77,v78,v79,v80,v81,v82,v83,v84,v85,v86,v87,v88,v89,x90,x91,x92,x93,x94,x95,x96,x97,x98,x99,x100,x101,x102,x103,x104,x105,x106,x107,x108,x109,x110,x111,x112,x113,x114,x115,x116,x117,x118,x119,x120,x121,x122,x123,x124,x125,x126,x127,x128,x129,x130,x131,x132,x133,x134,x135,x136,x137,x138,x139,x140,x141,x142,x143,x144,x145,x146,x147,x148,x149,x150,x151,x152,x153,x154,x155,x156,x157,x158,x159,x160,x161,x162,x163,x164,x165,x166,x167,x168,x169,x170,x171,x172,x173,x174,x175,x176,x177,x178,x179,x180,x181,x182,x183,x184,x185,x186,x187,x188,x189,x190,x191,x192,x193,x194,x195,x196,x197,x198,x199,x200,x201,x202,x203,x204,x205,x206,x207,x208,x209,x210,x211,x212,x213,x214,x215,x216,x217, .bool false,x219],[]⟩ w'):
  fQ Tryz.prog (opsOf adT) Q (Below W) [118,126] 99999 [70,71,72,73,74,75,76,77,78,79,80,81,82,83,84,85,86,87,88,89,90,91,92,93,94,95,96,97,98,99,100,101,102,103,104,105,106,107,108,109,110,111,112,113,114,115,116,117,118,119,120,121,122,123,124,125,126,127,128] ⟨#[v0,v1,v2,v3,v4, Pz gp,v6,v7,v8, .slice (some ⟨b,o,none⟩) N cp,Iz (j:Int),Iz (ln:Int),Iz (lf:Int),v13, Pz ga, Pz gb,v16,v17,v18,v19,v20,v21,v22,v23,v24,v25,v26,v27,v28,v29,v30,v31,v32,v33,v34,v35,v36,v37,v38,v39,v40,v41,v42,v43,v44,v45,v46,v47,v48,v49,v50,v51,v52,v53,v54,v55,v56,v57,v58,v59,v60,v61,v62,v63,v64,v65,v66,v67,v68,v69,v70,v71,v72,v73,v74,v75,v76,v77,v78,v79,v80,v81,v82,v83,v84,v85,v86,v87,v88,v89,x90,x91,x92,x93,x94,x95,x96,x97,x98,x99,x100,x101,x102,x103,x104,x105,x106,x107,x108,x109,x110,x111,x112,x113,x114,x115,x116,x117,x118,x119,x120,x121,x122,x123,x124,x125,x126,x127,x128,x129,x130,x131,x132,x133,x134,x135,x136,x137,x138,x139,x140,x141,x142,x143,x144,x145,x146,x147,x148,x149,x150,x151,x152,x153,x154,x155,x156,x157,x158, .bool false,x160,x161,x162,x163,x164,x165,x166,x167,x168,x169,x170,x171,x172,x173,x174,x175,x176,x177,x178,x179,x180,x181,x182,x183,x184,x185,x186,x187,x188,x189,x190,x191,x192,x193,x194,x195,x196,x197,x198,x199,x200,x201,x202,x203,x204,x205,x206,x207,x208,x209,x210,x211,x212,x213,x214,x215,x216,x217,x218,x219],[]⟩ w:=by
 conv=>arg 2;arg 1;whnf
 simp only[opsOf,List.toList_toArray]
 iterate 20 (refine Zt ?_;(try simp only[Zu]))
 exact ad4 HP EW D I z0 z1 z2 z3 z4 z5 z6 z7 z8 z9 J O ax ay y4 y6 a0 i7 hQ
theorem ad6 
  (HP:Hid (iZ w P ma sa))
  (EW:Hid (W=w.heap.size))
  (D:Hid (P.oY (ln:Int) a4=0))
  (I:Hid (P.oY (lf:Int) b4=0))
  (z0:∀u,Below W w u->u.cell? ⟨gp,0,none⟩=some (.string (str P.code)))
  (z1:∀u,Below W w u->u.cell? ⟨gp,1,none⟩=some (.slice ma P.E.length mc))
  (z2:∀u,Below W w u->u.cell? ⟨gp,2,none⟩=some (Iz P.tick))
  (z3:∀u,Below W w u->u.cell? ⟨gp,3,none⟩=some (Iz P.low))
  (z4:∀u,Below W w u->u.cell? ⟨gp,4,none⟩=some (Iz P.high))
  (z5:∀u,Below W w u->u.cell? ⟨gp,5,none⟩=some (Iz P.wide))
  (z6:∀u,Below W w u->u.cell? ⟨gp,6,none⟩=some (Iz P.rule))
  (z7:∀u,Below W w u->u.cell? ⟨gp,7,none⟩=some (Iz P.top))
  (z8:∀u,Below W w u->u.cell? ⟨gp,8,none⟩=some (Iz P.least))
  (z9:∀u,Below W w u->u.cell? ⟨gp,9,none⟩=some (Iz P.part))
  (J:∀u,Below W w u->u.cell? ⟨gp,10,none⟩=some (.slice sa P.settle.length sc))
  (O:∀u,Below W w u->u.cell? ⟨ga,4,none⟩=some (Iz a4))
  (a6:∀u,Below W w u->u.cell? ⟨ga,5,none⟩=some (Iz b5))
  (ax:∀u,Below W w u->u.cell? ⟨ga,6,none⟩=some (Iz b6))
  (a7:∀u,Below W w u->u.cell? ⟨gb,3,none⟩=some (Iz b3))
  (ay:∀u,Below W w u->u.cell? ⟨gb,4,none⟩=some (Iz b4))
  (a0:∀u,Below W w u->u.cell? ⟨gb,5,none⟩=some (Iz b5))
  (a2:∀u,Below W w u->u.cell? ⟨gb,6,none⟩=some (Iz b6))
  (y3:∀u,Below W w u->u.cell? ⟨b,o+j*8+3,none⟩=some (Iz a3))
  (y4:∀u,Below W w u->u.cell? ⟨b,o+j*8+4,none⟩=some (Iz (a4 - b4)))
  (y5:∀u,Below W w u->u.cell? ⟨b,o+j*8+5,none⟩=some (Iz b5))
  (y6:∀u,Below W w u->u.cell? ⟨b,o+j*8+6,none⟩=some (Iz b6))
  (a8:(b3==a3)=false)
  (a5:IntKind.i64.wrap (a4 - b4)=a4 - b4)
  (i7:(j:Int)<N)
  (hQ:∀{x90 x91 x92 x93 x94 x95 x96 x97 x98 x99 x100 x101 x102 x103 x104 x105 x106 x107 x108 x109 x110 x111 x112 x113 x114 x115 x116 x117 x118 x119 x120 x121 x122 x123 x124 x125 x126 x127 x128 x129 x130 x131 x132 x133 x134 x135 x136 x137 x138 x139 x140 x141 x142 x143 x144 x145 x146 x147 x148 x149 x150 x151 x152 x153 x154 x155 x156 x157 x158 x159 x160 x161 x162 x163 x164 x165 x166 x167 x168 x169 x170 x171 x172 x173 x174 x175 x176 x177 x178 x179 x180 x181 x182 x183 x184 x185 x186 x187 x188 x189 x190 x191 x192 x193 x194 x195 x196 x197 x198 x199 x200 x201 x202 x203 x204 x205 x206 x207 x208 x209 x210 x211 x212 x213 x214 x215 x216 x217:Value} {w':World},Below W w w'->Q .normal ⟨#[v0,v1,v2,v3,v4, Pz gp,v6,v7,v8, .slice (some ⟨b,o,none⟩) N cp,Iz (j:Int),Iz (ln:Int),Iz (lf:Int),v13, Pz ga, Pz gb,v16,v17,v18,v19,v20,v21,v22,v23,v24,v25,v26,v27,v28,v29,v30,v31,v32,v33,v34,v35,v36,v37,v38,v39,v40,v41,v42,v43,v44,v45,v46,v47,v48,v49,v50,v51,v52,v53,v54,v55,v56,v57,v58,v59,v60,v61,v62,v63,v64,v65,v66,v67,v68,v69,v70,v71,v72,v73,v74,v75,v76,v77,v78,v79,v80,v81,v82,v83,v84,v85,v86,v87,v88,v89,x90,x91,x92,x93,x94,x95,x96,x97,x98,x99,x100,x101,x102,x103,x104,x105,x106,x107,x108,x109,x110,x111,x112,x113,x114,x115,x116,x117,x118,x119,x120,x121,x122,x123,x124,x125,x126,x127,x128,x129,x130,x131,x132,x133,x134,x135,x136,x137,x138,x139,x140,x141,x142,x143,x144,x145,x146,x147,x148,x149,x150,x151,x152,x153,x154,x155,x156,x157,x158,x159,x160,x161,x162,x163,x164,x165,x166,x167,x168,x169,x170,x171,x172,x173,x174,x175,x176,x177,x178,x179,x180,x181,x182,x183,x184,x185,x186,x187,x188,x189,x190,x191,x192,x193,x194,x195,x196,x197,x198,x199,x200,x201,x202,x203,x204,x205,x206,x207,x208,x209,x210,x211,x212,x213,x214,x215,x216,x217, .bool false,x219],[]⟩ w'):
  fQ Tryz.prog (opsOf adT) Q (Below W) [118,126] 99999 [50,51,52,53,54,55,56,57,58,59,60,61,62,63,64,65,66,67,68,69,70,71,72,73,74,75,76,77,78,79,80,81,82,83,84,85,86,87,88,89,90,91,92,93,94,95,96,97,98,99,100,101,102,103,104,105,106,107,108,109,110,111,112,113,114,115,116,117,118,119,120,121,122,123,124,125,126,127,128] ⟨#[v0,v1,v2,v3,v4, Pz gp,v6,v7,v8, .slice (some ⟨b,o,none⟩) N cp,Iz (j:Int),Iz (ln:Int),Iz (lf:Int),v13, Pz ga, Pz gb,v16,v17,v18,v19,v20,v21,v22,v23,v24,v25,v26,v27,v28,v29,v30,v31,v32,v33,v34,v35,v36,v37,v38,v39,v40,v41,v42,v43,v44,v45,v46,v47,v48,v49,v50,v51,v52,v53,v54,v55,v56,v57,v58,v59,v60,v61,v62,v63,v64,v65,v66,v67,v68,v69,v70,v71,v72,v73,v74,v75,v76,v77,v78,v79,v80,v81,v82,v83,v84,v85,v86,v87,v88,v89,x90,x91,x92,x93,x94,x95,x96,x97,x98,x99,x100,x101,x102,x103,x104,x105,x106,x107,x108,x109,x110,x111,x112,x113,x114,x115,x116,x117,x118,x119,x120,x121,x122,x123,x124,x125,x126,x127,x128,x129,x130,x131,x132,x133,x134,x135,x136,x137,x138, .bool false,x140,x141,x142,x143,x144,x145,x146,x147,x148,x149,x150,x151,x152,x153,x154,x155,x156,x157,x158,x159,x160,x161,x162,x163,x164,x165,x166,x167,x168,x169,x170,x171,x172,x173,x174,x175,x176,x177,x178,x179,x180,x181,x182,x183,x184,x185,x186,x187,x188,x189,x190,x191,x192,x193,x194,x195,x196,x197,x198,x199,x200,x201,x202,x203,x204,x205,x206,x207,x208,x209,x210,x211,x212,x213,x214,x215,x216,x217,x218,x219],[]⟩ w:=by
 conv=>arg 2;arg 1;whnf
 simp only[opsOf,List.toList_toArray]
 iterate 20 (refine Zt ?_;(try simp only[Zu]))
 exact ad5 HP EW D I z0 z1 z2 z3 z4 z5 z6 z7 z8 z9 J O ax ay a0 a2 y4 y5 y6 a5 i7 hQ
theorem ad7 
  (HP:Hid (iZ w P ma sa))
  (EW:Hid (W=w.heap.size))
  (D:Hid (P.oY (ln:Int) a4=0))
  (I:Hid (P.oY (lf:Int) b4=0))
  (z0:∀u,Below W w u->u.cell? ⟨gp,0,none⟩=some (.string (str P.code)))
  (z1:∀u,Below W w u->u.cell? ⟨gp,1,none⟩=some (.slice ma P.E.length mc))
  (z2:∀u,Below W w u->u.cell? ⟨gp,2,none⟩=some (Iz P.tick))
  (z3:∀u,Below W w u->u.cell? ⟨gp,3,none⟩=some (Iz P.low))
  (z4:∀u,Below W w u->u.cell? ⟨gp,4,none⟩=some (Iz P.high))
  (z5:∀u,Below W w u->u.cell? ⟨gp,5,none⟩=some (Iz P.wide))
  (z6:∀u,Below W w u->u.cell? ⟨gp,6,none⟩=some (Iz P.rule))
  (z7:∀u,Below W w u->u.cell? ⟨gp,7,none⟩=some (Iz P.top))
  (z8:∀u,Below W w u->u.cell? ⟨gp,8,none⟩=some (Iz P.least))
  (z9:∀u,Below W w u->u.cell? ⟨gp,9,none⟩=some (Iz P.part))
  (J:∀u,Below W w u->u.cell? ⟨gp,10,none⟩=some (.slice sa P.settle.length sc))
  (ba:∀u,Below W w u->u.cell? ⟨ga,2,none⟩=some (Iz (ln:Int)))
  (bb:∀u,Below W w u->u.cell? ⟨ga,3,none⟩=some (Iz a3))
  (O:∀u,Below W w u->u.cell? ⟨ga,4,none⟩=some (Iz a4))
  (ax:∀u,Below W w u->u.cell? ⟨ga,5,none⟩=some (Iz b5))
  (ay:∀u,Below W w u->u.cell? ⟨ga,6,none⟩=some (Iz b6))
  (bc:∀u,Below W w u->u.cell? ⟨gb,2,none⟩=some (Iz (lf:Int)))
  (a0:∀u,Below W w u->u.cell? ⟨gb,3,none⟩=some (Iz b3))
  (a2:∀u,Below W w u->u.cell? ⟨gb,4,none⟩=some (Iz b4))
  (a5:∀u,Below W w u->u.cell? ⟨gb,5,none⟩=some (Iz b5))
  (a6:∀u,Below W w u->u.cell? ⟨gb,6,none⟩=some (Iz b6))
  (y3:∀u,Below W w u->u.cell? ⟨b,o+j*8+3,none⟩=some (Iz a3))
  (y4:∀u,Below W w u->u.cell? ⟨b,o+j*8+4,none⟩=some (Iz (a4 - b4)))
  (y5:∀u,Below W w u->u.cell? ⟨b,o+j*8+5,none⟩=some (Iz b5))
  (y6:∀u,Below W w u->u.cell? ⟨b,o+j*8+6,none⟩=some (Iz b6))
  (a7:(b3==a3)=false)
  (a8:IntKind.i64.wrap (a4 - b4)=a4 - b4)
  (i7:(j:Int)<N)
  (hQ:∀{x90 x91 x92 x93 x94 x95 x96 x97 x98 x99 x100 x101 x102 x103 x104 x105 x106 x107 x108 x109 x110 x111 x112 x113 x114 x115 x116 x117 x118 x119 x120 x121 x122 x123 x124 x125 x126 x127 x128 x129 x130 x131 x132 x133 x134 x135 x136 x137 x138 x139 x140 x141 x142 x143 x144 x145 x146 x147 x148 x149 x150 x151 x152 x153 x154 x155 x156 x157 x158 x159 x160 x161 x162 x163 x164 x165 x166 x167 x168 x169 x170 x171 x172 x173 x174 x175 x176 x177 x178 x179 x180 x181 x182 x183 x184 x185 x186 x187 x188 x189 x190 x191 x192 x193 x194 x195 x196 x197 x198 x199 x200 x201 x202 x203 x204 x205 x206 x207 x208 x209 x210 x211 x212 x213 x214 x215 x216 x217:Value} {w':World},Below W w w'->Q .normal ⟨#[v0,v1,v2,v3,v4, Pz gp,v6,v7,v8, .slice (some ⟨b,o,none⟩) N cp,Iz (j:Int),Iz (ln:Int),Iz (lf:Int),v13, Pz ga, Pz gb,v16,v17,v18,v19,v20,v21,v22,v23,v24,v25,v26,v27,v28,v29,v30,v31,v32,v33,v34,v35,v36,v37,v38,v39,v40,v41,v42,v43,v44,v45,v46,v47,v48,v49,v50,v51,v52,v53,v54,v55,v56,v57,v58,v59,v60,v61,v62,v63,v64,v65,v66,v67,v68,v69,v70,v71,v72,v73,v74,v75,v76,v77,v78,v79,v80,v81,v82,v83,v84,v85,v86,v87,v88,v89,x90,x91,x92,x93,x94,x95,x96,x97,x98,x99,x100,x101,x102,x103,x104,x105,x106,x107,x108,x109,x110,x111,x112,x113,x114,x115,x116,x117,x118,x119,x120,x121,x122,x123,x124,x125,x126,x127,x128,x129,x130,x131,x132,x133,x134,x135,x136,x137,x138,x139,x140,x141,x142,x143,x144,x145,x146,x147,x148,x149,x150,x151,x152,x153,x154,x155,x156,x157,x158,x159,x160,x161,x162,x163,x164,x165,x166,x167,x168,x169,x170,x171,x172,x173,x174,x175,x176,x177,x178,x179,x180,x181,x182,x183,x184,x185,x186,x187,x188,x189,x190,x191,x192,x193,x194,x195,x196,x197,x198,x199,x200,x201,x202,x203,x204,x205,x206,x207,x208,x209,x210,x211,x212,x213,x214,x215,x216,x217, .bool false,x219],[]⟩ w'):
  fQ Tryz.prog (opsOf adT) Q (Below W) [118,126] 99999 [28,29,30,31,32,33,34,35,36,37,38,39,40,41,42,43,44,45,46,47,48,49,50,51,52,53,54,55,56,57,58,59,60,61,62,63,64,65,66,67,68,69,70,71,72,73,74,75,76,77,78,79,80,81,82,83,84,85,86,87,88,89,90,91,92,93,94,95,96,97,98,99,100,101,102,103,104,105,106,107,108,109,110,111,112,113,114,115,116,117,118,119,120,121,122,123,124,125,126,127,128] ⟨#[v0,v1,v2,v3,v4, Pz gp,v6,v7,v8, .slice (some ⟨b,o,none⟩) N cp,Iz (j:Int),Iz (ln:Int),Iz (lf:Int),v13, Pz ga, Pz gb,v16,v17,v18,v19,v20,v21,v22,v23,v24,v25,v26,v27,v28,v29,v30,v31,v32,v33,v34,v35,v36,v37,v38,v39,v40,v41,v42,v43,v44,v45,v46,v47,v48,v49,v50,v51,v52,v53,v54,v55,v56,v57,v58,v59,v60,v61,v62,v63,v64,v65,v66,v67,v68,v69,v70,v71,v72,v73,v74,v75,v76,v77,v78,v79,v80,v81,v82,v83,v84,v85,v86,v87,v88,v89,x90,x91,x92,x93,x94,x95,x96,x97,x98,x99,x100,x101,x102,x103,x104,x105,x106,x107,x108,x109,x110,x111,x112,x113,x114,x115,x116, .bool false,x118,x119,x120,x121,x122,x123,x124,x125,x126,x127,x128,x129,x130,x131,x132,x133,x134,x135,x136,x137,x138,x139,x140,x141,x142,x143,x144,x145,x146,x147,x148,x149,x150,x151,x152,x153,x154,x155,x156,x157,x158,x159,x160,x161,x162,x163,x164,x165,x166,x167,x168,x169,x170,x171,x172,x173,x174,x175,x176,x177,x178,x179,x180,x181,x182,x183,x184,x185,x186,x187,x188,x189,x190,x191,x192,x193,x194,x195,x196,x197,x198,x199,x200,x201,x202,x203,x204,x205,x206,x207,x208,x209,x210,x211,x212,x213,x214,x215,x216,x217,x218,x219],[]⟩ w:=by
 conv=>arg 2;arg 1;whnf
 simp only[opsOf,List.toList_toArray]
 iterate 22 (refine Zt ?_;(try simp only[Zu]))
 exact ad6 HP EW D I z0 z1 z2 z3 z4 z5 z6 z7 z8 z9 J O ax ay a0 a2 a5 a6 y3 y4 y5 y6 a7 a8 i7 hQ
theorem ad8 {b1:Int} 
  (HP:Hid (iZ w P ma sa))
  (EW:Hid (W=w.heap.size))
  (D:Hid (P.oY (ln:Int) a4=0))
  (I:Hid (P.oY (lf:Int) b4=0))
  (z0:∀u,Below W w u->u.cell? ⟨gp,0,none⟩=some (.string (str P.code)))
  (z1:∀u,Below W w u->u.cell? ⟨gp,1,none⟩=some (.slice ma P.E.length mc))
  (z2:∀u,Below W w u->u.cell? ⟨gp,2,none⟩=some (Iz P.tick))
  (z3:∀u,Below W w u->u.cell? ⟨gp,3,none⟩=some (Iz P.low))
  (z4:∀u,Below W w u->u.cell? ⟨gp,4,none⟩=some (Iz P.high))
  (z5:∀u,Below W w u->u.cell? ⟨gp,5,none⟩=some (Iz P.wide))
  (z6:∀u,Below W w u->u.cell? ⟨gp,6,none⟩=some (Iz P.rule))
  (z7:∀u,Below W w u->u.cell? ⟨gp,7,none⟩=some (Iz P.top))
  (z8:∀u,Below W w u->u.cell? ⟨gp,8,none⟩=some (Iz P.least))
  (z9:∀u,Below W w u->u.cell? ⟨gp,9,none⟩=some (Iz P.part))
  (J:∀u,Below W w u->u.cell? ⟨gp,10,none⟩=some (.slice sa P.settle.length sc))
  (bf:∀u,Below W w u->u.cell? ⟨ga,0,none⟩=some (Iz 3))
  (bh:∀u,Below W w u->u.cell? ⟨ga,1,none⟩=some (Iz b1))
  (O:∀u,Below W w u->u.cell? ⟨ga,2,none⟩=some (Iz (ln:Int)))
  (ax:∀u,Below W w u->u.cell? ⟨ga,3,none⟩=some (Iz a3))
  (ay:∀u,Below W w u->u.cell? ⟨ga,4,none⟩=some (Iz a4))
  (a0:∀u,Below W w u->u.cell? ⟨ga,5,none⟩=some (Iz b5))
  (a2:∀u,Below W w u->u.cell? ⟨ga,6,none⟩=some (Iz b6))
  (bp:∀u,Below W w u->u.cell? ⟨gb,0,none⟩=some (Iz 3))
  (bt:∀u,Below W w u->u.cell? ⟨gb,1,none⟩=some (Iz b1))
  (a5:∀u,Below W w u->u.cell? ⟨gb,2,none⟩=some (Iz (lf:Int)))
  (a6:∀u,Below W w u->u.cell? ⟨gb,3,none⟩=some (Iz b3))
  (a7:∀u,Below W w u->u.cell? ⟨gb,4,none⟩=some (Iz b4))
  (a8:∀u,Below W w u->u.cell? ⟨gb,5,none⟩=some (Iz b5))
  (ba:∀u,Below W w u->u.cell? ⟨gb,6,none⟩=some (Iz b6))
  (y1:∀u,Below W w u->u.cell? ⟨b,o+j*8+1,none⟩=some (Iz b1))
  (y3:∀u,Below W w u->u.cell? ⟨b,o+j*8+3,none⟩=some (Iz a3))
  (y4:∀u,Below W w u->u.cell? ⟨b,o+j*8+4,none⟩=some (Iz (a4 - b4)))
  (y5:∀u,Below W w u->u.cell? ⟨b,o+j*8+5,none⟩=some (Iz b5))
  (y6:∀u,Below W w u->u.cell? ⟨b,o+j*8+6,none⟩=some (Iz b6))
  (bb:(b3==a3)=false)
  (bc:IntKind.i64.wrap (a4 - b4)=a4 - b4)
  (i7:(j:Int)<N)
  (hQ:∀{x90 x91 x92 x93 x94 x95 x96 x97 x98 x99 x100 x101 x102 x103 x104 x105 x106 x107 x108 x109 x110 x111 x112 x113 x114 x115 x116 x117 x118 x119 x120 x121 x122 x123 x124 x125 x126 x127 x128 x129 x130 x131 x132 x133 x134 x135 x136 x137 x138 x139 x140 x141 x142 x143 x144 x145 x146 x147 x148 x149 x150 x151 x152 x153 x154 x155 x156 x157 x158 x159 x160 x161 x162 x163 x164 x165 x166 x167 x168 x169 x170 x171 x172 x173 x174 x175 x176 x177 x178 x179 x180 x181 x182 x183 x184 x185 x186 x187 x188 x189 x190 x191 x192 x193 x194 x195 x196 x197 x198 x199 x200 x201 x202 x203 x204 x205 x206 x207 x208 x209 x210 x211 x212 x213 x214 x215 x216 x217:Value} {w':World},Below W w w'->Q .normal ⟨#[v0,v1,v2,v3,v4, Pz gp,v6,v7,v8, .slice (some ⟨b,o,none⟩) N cp,Iz (j:Int),Iz (ln:Int),Iz (lf:Int),v13, Pz ga, Pz gb,v16,v17,v18,v19,v20,v21,v22,v23,v24,v25,v26,v27,v28,v29,v30,v31,v32,v33,v34,v35,v36,v37,v38,v39,v40,v41,v42,v43,v44,v45,v46,v47,v48,v49,v50,v51,v52,v53,v54,v55,v56,v57,v58,v59,v60,v61,v62,v63,v64,v65,v66,v67,v68,v69,v70,v71,v72,v73,v74,v75,v76,v77,v78,v79,v80,v81,v82,v83,v84,v85,v86,v87,v88,v89,x90,x91,x92,x93,x94,x95,x96,x97,x98,x99,x100,x101,x102,x103,x104,x105,x106,x107,x108,x109,x110,x111,x112,x113,x114,x115,x116,x117,x118,x119,x120,x121,x122,x123,x124,x125,x126,x127,x128,x129,x130,x131,x132,x133,x134,x135,x136,x137,x138,x139,x140,x141,x142,x143,x144,x145,x146,x147,x148,x149,x150,x151,x152,x153,x154,x155,x156,x157,x158,x159,x160,x161,x162,x163,x164,x165,x166,x167,x168,x169,x170,x171,x172,x173,x174,x175,x176,x177,x178,x179,x180,x181,x182,x183,x184,x185,x186,x187,x188,x189,x190,x191,x192,x193,x194,x195,x196,x197,x198,x199,x200,x201,x202,x203,x204,x205,x206,x207,x208,x209,x210,x211,x212,x213,x214,x215,x216,x217, .bool false,x219],[]⟩ w'):
  fQ Tryz.prog (opsOf adT) Q (Below W) [118,126] 99999 [0,1,2,3,4,5,6,7,8,9,10,11,12,13,14,15,16,17,18,19,20,21,22,23,24,25,26,27,28,29,30,31,32,33,34,35,36,37,38,39,40,41,42,43,44,45,46,47,48,49,50,51,52,53,54,55,56,57,58,59,60,61,62,63,64,65,66,67,68,69,70,71,72,73,74,75,76,77,78,79,80,81,82,83,84,85,86,87,88,89,90,91,92,93,94,95,96,97,98,99,100,101,102,103,104,105,106,107,108,109,110,111,112,113,114,115,116,117,118,119,120,121,122,123,124,125,126,127,128] ⟨#[v0,v1,v2,v3,v4, Pz gp,v6,v7,v8, .slice (some ⟨b,o,none⟩) N cp,Iz (j:Int),Iz (ln:Int),Iz (lf:Int),v13, Pz ga, Pz gb,v16,v17,v18,v19,v20,v21,v22,v23,v24,v25,v26,v27,v28,v29,v30,v31,v32,v33,v34,v35,v36,v37,v38,v39,v40,v41,v42,v43,v44,v45,v46,v47,v48,v49,v50,v51,v52,v53,v54,v55,v56,v57,v58,v59,v60,v61,v62,v63,v64,v65,v66,v67,v68,v69,v70,v71,v72,v73,v74,v75,v76,v77,v78,v79,v80,v81,v82,v83,v84,v85,v86,v87,v88,v89,x90,x91,x92,x93,x94,x95,x96,x97,x98,x99,x100,x101,x102,x103,x104,x105,x106,x107,x108,x109,x110,x111,x112,x113,x114,x115,x116,x117,x118,x119,x120,x121,x122,x123,x124,x125,x126,x127,x128,x129,x130,x131,x132,x133,x134,x135,x136,x137,x138,x139,x140,x141,x142,x143,x144,x145,x146,x147,x148,x149,x150,x151,x152,x153,x154,x155,x156,x157,x158,x159,x160,x161,x162,x163,x164,x165,x166,x167,x168,x169,x170,x171,x172,x173,x174,x175,x176,x177,x178,x179,x180,x181,x182,x183,x184,x185,x186,x187,x188,x189,x190,x191,x192,x193,x194,x195,x196,x197,x198,x199,x200,x201,x202,x203,x204,x205,x206,x207,x208,x209,x210,x211,x212,x213,x214,x215,x216,x217,x218,x219],[]⟩ w:=by
 conv=>arg 2;arg 1;whnf
 simp only[opsOf,List.toList_toArray]
 iterate 28 (refine Zt ?_;(try simp only[Zu]))
 exact ad7 HP EW D I z0 z1 z2 z3 z4 z5 z6 z7 z8 z9 J O ax ay a0 a2 a5 a6 a7 a8 ba y3 y4 y5 y6 bb bc i7 hQ
theorem aeC:adW .any (opsOf adT).toArray [118,126] 99999 [0,1,2,3,4,5,6,7,8,9] (List.replicate 0 true++List.replicate 129 false).toArray=true:=by kernel_rfl
theorem aeD:adV [0,1,2,3,4,5,6,7,8,9] (List.replicate 0 true++List.replicate 129 false).toArray=(List.replicate 10 true++List.replicate 119 false).toArray:=by decide+kernel
theorem aej:adW .any (opsOf adT).toArray [118,126] 99999 [10,11,12,13,14,15,16,17,18,19] (List.replicate 10 true++List.replicate 119 false).toArray=true:=by kernel_rfl
theorem aek:adV [10,11,12,13,14,15,16,17,18,19] (List.replicate 10 true++List.replicate 119 false).toArray=(List.replicate 20 true++List.replicate 109 false).toArray:=by decide+kernel
theorem ael:adW .any (opsOf adT).toArray [118,126] 99999 [20,21,22,23,24,25,26,27,28,29] (List.replicate 20 true++List.replicate 109 false).toArray=true:=by kernel_rfl
theorem aem:adV [20,21,22,23,24,25,26,27,28,29] (List.replicate 20 true++List.replicate 109 false).toArray=(List.replicate 30 true++List.replicate 99 false).toArray:=by decide+kernel
theorem aen:adW .any (opsOf adT).toArray [118,126] 99999 [30,31,32,33,34,35,36,37,38,39] (List.replicate 30 true++List.replicate 99 false).toArray=true:=by kernel_rfl
theorem aeo:adV [30,31,32,33,34,35,36,37,38,39] (List.replicate 30 true++List.replicate 99 false).toArray=(List.replicate 40 true++List.replicate 89 false).toArray:=by decide+kernel
theorem aep:adW .any (opsOf adT).toArray [118,126] 99999 [40,41,42,43,44,45,46,47,48,49] (List.replicate 40 true++List.replicate 89 false).toArray=true:=by kernel_rfl
theorem aeq:adV [40,41,42,43,44,45,46,47,48,49] (List.replicate 40 true++List.replicate 89 false).toArray=(List.replicate 50 true++List.replicate 79 false).toArray:=by decide+kernel
theorem aer:adW .any (opsOf adT).toArray [118,126] 99999 [50,51,52,53,54,55,56,57,58,59] (List.replicate 50 true++List.replicate 79 false).toArray=true:=by kernel_rfl
theorem aes:adV [50,51,52,53,54,55,56,57,58,59] (List.replicate 50 true++List.replicate 79 false).toArray=(List.replicate 60 true++List.replicate 69 false).toArray:=by decide+kernel
theorem aet:adW .any (opsOf adT).toArray [118,126] 99999 [60,61,62,63,64,65,66,67,68,69] (List.replicate 60 true++List.replicate 69 false).toArray=true:=by kernel_rfl
theorem aeu:adV [60,61,62,63,64,65,66,67,68,69] (List.replicate 60 true++List.replicate 69 false).toArray=(List.replicate 70 true++List.replicate 59 false).toArray:=by decide+kernel
theorem aev:adW .any (opsOf adT).toArray [118,126] 99999 [70,71,72,73,74,75,76,77,78,79] (List.replicate 70 true++List.replicate 59 false).toArray=true:=by kernel_rfl
theorem aew:adV [70,71,72,73,74,75,76,77,78,79] (List.replicate 70 true++List.replicate 59 false).toArray=(List.replicate 80 true++List.replicate 49 false).toArray:=by decide+kernel
theorem aex:adW .any (opsOf adT).toArray [118,126] 99999 [80,81,82,83,84,85,86,87,88,89] (List.replicate 80 true++List.replicate 49 false).toArray=true:=by kernel_rfl
theorem aey:adV [80,81,82,83,84,85,86,87,88,89] (List.replicate 80 true++List.replicate 49 false).toArray=(List.replicate 90 true++List.replicate 39 false).toArray:=by decide+kernel
theorem aez:adW .any (opsOf adT).toArray [118,126] 99999 [90,91,92,93,94,95,96,97,98,99] (List.replicate 90 true++List.replicate 39 false).toArray=true:=by kernel_rfl
theorem aeA:adV [90,91,92,93,94,95,96,97,98,99] (List.replicate 90 true++List.replicate 39 false).toArray=(List.replicate 100 true++List.replicate 29 false).toArray:=by decide+kernel
theorem aea:adW .any (opsOf adT).toArray [118,126] 99999 [100,101,102,103,104,105,106,107,108,109] (List.replicate 100 true++List.replicate 29 false).toArray=true:=by kernel_rfl
theorem aeb:adV [100,101,102,103,104,105,106,107,108,109] (List.replicate 100 true++List.replicate 29 false).toArray=(List.replicate 110 true++List.replicate 19 false).toArray:=by decide+kernel
theorem aec:adW .any (opsOf adT).toArray [118,126] 99999 [110,111,112,113,114,115,116,117,118,119] (List.replicate 110 true++List.replicate 19 false).toArray=true:=by kernel_rfl
theorem aed:adV [110,111,112,113,114,115,116,117,118,119] (List.replicate 110 true++List.replicate 19 false).toArray=(List.replicate 120 true++List.replicate 9 false).toArray:=by decide+kernel
theorem aee:adW .any (opsOf adT).toArray [118,126] 99999 [120,121,122,123,124,125,126,127,128] (List.replicate 120 true++List.replicate 9 false).toArray=true:=by kernel_rfl
theorem aef:adV [120,121,122,123,124,125,126,127,128] (List.replicate 120 true++List.replicate 9 false).toArray=(List.replicate 129 true++List.replicate 0 false).toArray:=by decide+kernel
theorem aeE:Az .any (opsOf adT).toArray [118,126] 99999 [] (List.replicate 129 true++List.replicate 0 false).toArray=true:=by kernel_rfl
theorem aeg:Az .any (opsOf adT).toArray [118,126] 99999 ([0,1,2,3,4,5,6,7,8,9]++([10,11,12,13,14,15,16,17,18,19]++([20,21,22,23,24,25,26,27,28,29]++([30,31,32,33,34,35,36,37,38,39]++([40,41,42,43,44,45,46,47,48,49]++([50,51,52,53,54,55,56,57,58,59]++([60,61,62,63,64,65,66,67,68,69]++([70,71,72,73,74,75,76,77,78,79]++([80,81,82,83,84,85,86,87,88,89]++([90,91,92,93,94,95,96,97,98,99]++([100,101,102,103,104,105,106,107,108,109]++([110,111,112,113,114,115,116,117,118,119]++([120,121,122,123,124,125,126,127,128]++([])))))))))))))) (List.replicate 0 true++List.replicate 129 false).toArray=true:=(adU aeC (aeD▸(adU aej (aek▸(adU ael (aem▸(adU aen (aeo▸(adU aep (aeq▸(adU aer (aes▸(adU aet (aeu▸(adU aev (aew▸(adU aex (aey▸(adU aez (aeA▸(adU aea (aeb▸(adU aec (aed▸(adU aee (aef▸aeE))))))))))))))))))))))))))
theorem aeh {b1 a7 b7:Int} 
  (HP:Hid (iZ w P ma sa))
  (ay:Hid (P.oY (ln:Int) a4=0))
  (a0:Hid (P.oY (lf:Int) b4=0))
  (D:Hid (fM w gp P ma mc sa sc))
  (I:Hid (aE w ga 40 #[Iz 3,Iz b1,Iz (ln:Int),Iz a3,Iz a4,Iz b5,Iz b6,Iz a7]))
  (O:Hid (aE w gb 40 #[Iz 3,Iz b1,Iz (lf:Int),Iz b3,Iz b4,Iz b5,Iz b6,Iz b7]))
  (hb:b<w.heap.size)
  (y1:w.cell? ⟨b,o+j*8+1,none⟩=some (Iz b1))
  (y3:w.cell? ⟨b,o+j*8+3,none⟩=some (Iz a3))
  (y4:w.cell? ⟨b,o+j*8+4,none⟩=some (Iz (a4 - b4)))
  (y5:w.cell? ⟨b,o+j*8+5,none⟩=some (Iz b5))
  (y6:w.cell? ⟨b,o+j*8+6,none⟩=some (Iz b6))
  (a2:(b3==a3)=false)
  (a5:IntKind.i64.wrap (a4 - b4)=a4 - b4)
  (i7:(j:Int)<N)
  (ax:∀c a (d:Tmp) v w,Q (.panic c) (Act.put a (some d) v) w->Q (.panic c) a w)
  (hQ:∀{x90 x91 x92 x93 x94 x95 x96 x97 x98 x99 x100 x101 x102 x103 x104 x105 x106 x107 x108 x109 x110 x111 x112 x113 x114 x115 x116 x117 x118 x119 x120 x121 x122 x123 x124 x125 x126 x127 x128 x129 x130 x131 x132 x133 x134 x135 x136 x137 x138 x139 x140 x141 x142 x143 x144 x145 x146 x147 x148 x149 x150 x151 x152 x153 x154 x155 x156 x157 x158 x159 x160 x161 x162 x163 x164 x165 x166 x167 x168 x169 x170 x171 x172 x173 x174 x175 x176 x177 x178 x179 x180 x181 x182 x183 x184 x185 x186 x187 x188 x189 x190 x191 x192 x193 x194 x195 x196 x197 x198 x199 x200 x201 x202 x203 x204 x205 x206 x207 x208 x209 x210 x211 x212 x213 x214 x215 x216 x217:Value} {w':World},Bz w w'->Q .normal ⟨#[v0,v1,v2,v3,v4, Pz gp,v6,v7,v8, .slice (some ⟨b,o,none⟩) N cp,Iz (j:Int),Iz (ln:Int),Iz (lf:Int),v13, Pz ga, Pz gb,v16,v17,v18,v19,v20,v21,v22,v23,v24,v25,v26,v27,v28,v29,v30,v31,v32,v33,v34,v35,v36,v37,v38,v39,v40,v41,v42,v43,v44,v45,v46,v47,v48,v49,v50,v51,v52,v53,v54,v55,v56,v57,v58,v59,v60,v61,v62,v63,v64,v65,v66,v67,v68,v69,v70,v71,v72,v73,v74,v75,v76,v77,v78,v79,v80,v81,v82,v83,v84,v85,v86,v87,v88,v89,x90,x91,x92,x93,x94,x95,x96,x97,x98,x99,x100,x101,x102,x103,x104,x105,x106,x107,x108,x109,x110,x111,x112,x113,x114,x115,x116,x117,x118,x119,x120,x121,x122,x123,x124,x125,x126,x127,x128,x129,x130,x131,x132,x133,x134,x135,x136,x137,x138,x139,x140,x141,x142,x143,x144,x145,x146,x147,x148,x149,x150,x151,x152,x153,x154,x155,x156,x157,x158,x159,x160,x161,x162,x163,x164,x165,x166,x167,x168,x169,x170,x171,x172,x173,x174,x175,x176,x177,x178,x179,x180,x181,x182,x183,x184,x185,x186,x187,x188,x189,x190,x191,x192,x193,x194,x195,x196,x197,x198,x199,x200,x201,x202,x203,x204,x205,x206,x207,x208,x209,x210,x211,x212,x213,x214,x215,x216,x217, .bool false,x219],[]⟩ w'):
  adT.wp Tryz.prog Q ⟨#[v0,v1,v2,v3,v4, Pz gp,v6,v7,v8, .slice (some ⟨b,o,none⟩) N cp,Iz (j:Int),Iz (ln:Int),Iz (lf:Int),v13, Pz ga, Pz gb,v16,v17,v18,v19,v20,v21,v22,v23,v24,v25,v26,v27,v28,v29,v30,v31,v32,v33,v34,v35,v36,v37,v38,v39,v40,v41,v42,v43,v44,v45,v46,v47,v48,v49,v50,v51,v52,v53,v54,v55,v56,v57,v58,v59,v60,v61,v62,v63,v64,v65,v66,v67,v68,v69,v70,v71,v72,v73,v74,v75,v76,v77,v78,v79,v80,v81,v82,v83,v84,v85,v86,v87,v88,v89,x90,x91,x92,x93,x94,x95,x96,x97,x98,x99,x100,x101,x102,x103,x104,x105,x106,x107,x108,x109,x110,x111,x112,x113,x114,x115,x116,x117,x118,x119,x120,x121,x122,x123,x124,x125,x126,x127,x128,x129,x130,x131,x132,x133,x134,x135,x136,x137,x138,x139,x140,x141,x142,x143,x144,x145,x146,x147,x148,x149,x150,x151,x152,x153,x154,x155,x156,x157,x158,x159,x160,x161,x162,x163,x164,x165,x166,x167,x168,x169,x170,x171,x172,x173,x174,x175,x176,x177,x178,x179,x180,x181,x182,x183,x184,x185,x186,x187,x188,x189,x190,x191,x192,x193,x194,x195,x196,x197,x198,x199,x200,x201,x202,x203,x204,x205,x206,x207,x208,x209,x210,x211,x212,x213,x214,x215,x216,x217,x218,x219],[]⟩ w:=by
 show(Code.region 17 (opsOf adT).toArray true).wp Tryz.prog Q _ w;refine bx (R:=Below w.heap.size) 99999 [118,126] [0,1,2,3,4,5,6,7,8,9,10,11,12,13,14,15,16,17,18,19,20,21,22,23,24,25,26,27,28,29,30,31,32,33,34,35,36,37,38,39,40,41,42,43,44,45,46,47,48,49,50,51,52,53,54,55,56,57,58,59,60,61,62,63,64,65,66,67,68,69,70,71,72,73,74,75,76,77,78,79,80,81,82,83,84,85,86,87,88,89,90,91,92,93,94,95,96,97,98,99,100,101,102,103,104,105,106,107,108,109,110,111,112,113,114,115,116,117,118,119,120,121,122,123,124,125,126,127,128] (by kernel_rfl) (dH.tr _) (dH.J _) (by
  rw[dv,dv,dv];exact⟨⟨⟨by kernel_rfl,by kernel_rfl⟩,aeg⟩,by kernel_rfl⟩) ax ?_
 have mv:∀(a:Addr) (v:Value),a.block<w.heap.size->w.cell? a=some v->∀u,Below w.heap.size w.drew u->u.cell? a=some v:=fun a v ha hv u hu=>(hu.cell (p:=a) ha).trans hv;exact ad8 (w:=w.drew) (ao HP.drew) (ao rfl) ay a0 (mv _ _ D.lt (D.cell 0)) (mv _ _ D.lt (D.cell 1)) (mv _ _ D.lt (D.cell 2)) (mv _ _ D.lt (D.cell 3)) (mv _ _ D.lt (D.cell 4)) (mv _ _ D.lt (D.cell 5)) (mv _ _ D.lt (D.cell 6)) (mv _ _ D.lt (D.cell 7)) (mv _ _ D.lt (D.cell 8)) (mv _ _ D.lt (D.cell 9)) (mv _ _ D.lt (D.cell 10)) (mv _ _ I.lt (I.cell 0)) (mv _ _ I.lt (I.cell 1)) (mv _ _ I.lt (I.cell 2)) (mv _ _ I.lt (I.cell 3)) (mv _ _ I.lt (I.cell 4)) (mv _ _ I.lt (I.cell 5)) (mv _ _ I.lt (I.cell 6)) (mv _ _ O.lt (O.cell 0)) (mv _ _ O.lt (O.cell 1)) (mv _ _ O.lt (O.cell 2)) (mv _ _ O.lt (O.cell 3)) (mv _ _ O.lt (O.cell 4)) (mv _ _ O.lt (O.cell 5)) (mv _ _ O.lt (O.cell 6)) (mv ⟨b,o+j*8+1,none⟩ _ hb y1) (mv ⟨b,o+j*8+3,none⟩ _ hb y3) (mv ⟨b,o+j*8+4,none⟩ _ hb y4) (mv ⟨b,o+j*8+5,none⟩ _ hb y5) (mv ⟨b,o+j*8+6,none⟩ _ hb y6) a2 a5 i7 (fun a6=>hQ ((aa _ w).drew.trans a6))
end Go.Proofs.YtbaaheidifacaaaGreat
