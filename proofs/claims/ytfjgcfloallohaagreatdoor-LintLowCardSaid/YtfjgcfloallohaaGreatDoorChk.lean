/- The functions of the table are the program's. -/
import Derived.Test.YtfjgcfloallohaaGreatDoorProg
import Derived.Test.YtfjgcfloallohaaGreatDoorEngAll7
import Derived.Test.YtfjgcfloallohaaGreatDoorTab
import Derived.Test.YtfjgcfloallohaaGreatDoorNameW
namespace Go.EnvOf
open Go Go.Eng
set_option maxRecDepth 100000
theorem ok3 : FnOK Go.Proofs.Tryz.prog 3 ir3 := ⟨_, _, Go.Proofs.Tryz.func3, by kernel_rfl, rfl, by kernel_rfl, by kernel_rfl⟩
theorem ok4 : FnOK Go.Proofs.Tryz.prog 4 ir4 := ⟨_, _, Go.Proofs.Tryz.func4, by kernel_rfl, rfl, by kernel_rfl, by kernel_rfl⟩
theorem ok5 : FnOK Go.Proofs.Tryz.prog 5 ir5 := ⟨_, _, Go.Proofs.Tryz.func5, by kernel_rfl, rfl, by kernel_rfl, by kernel_rfl⟩
theorem ok6 : FnOK Go.Proofs.Tryz.prog 6 ir6 := ⟨_, _, Go.Proofs.Tryz.func6, by kernel_rfl, rfl, by kernel_rfl, by kernel_rfl⟩
theorem ok7 : FnOK Go.Proofs.Tryz.prog 7 ir7 := ⟨_, _, Go.Proofs.Tryz.func7, by kernel_rfl, rfl, by kernel_rfl, by kernel_rfl⟩
theorem ok8 : FnOK Go.Proofs.Tryz.prog 8 ir8 := ⟨_, _, Go.Proofs.Tryz.func8, by kernel_rfl, rfl, by kernel_rfl, by kernel_rfl⟩
theorem ok9 : FnOK Go.Proofs.Tryz.prog 9 ir9 := ⟨_, _, Go.Proofs.Tryz.func9, by kernel_rfl, rfl, by kernel_rfl, by kernel_rfl⟩
theorem ok10 : FnOK Go.Proofs.Tryz.prog 10 ir10 := ⟨_, _, Go.Proofs.Tryz.func10, by kernel_rfl, rfl, by kernel_rfl, by kernel_rfl⟩
theorem ok12 : FnOK Go.Proofs.Tryz.prog 12 ir12 := ⟨_, _, Go.Proofs.Tryz.func12, by kernel_rfl, rfl, by kernel_rfl, by kernel_rfl⟩
theorem ok13 : FnOK Go.Proofs.Tryz.prog 13 ir13 := ⟨_, _, Go.Proofs.Tryz.func13, by kernel_rfl, rfl, by kernel_rfl, by kernel_rfl⟩
theorem ok14 : FnOK Go.Proofs.Tryz.prog 14 ir14 := ⟨_, _, Go.Proofs.Tryz.func14, by kernel_rfl, rfl, by kernel_rfl, by kernel_rfl⟩
theorem ok15 : FnOK Go.Proofs.Tryz.prog 15 ir15 := ⟨_, _, Go.Proofs.Tryz.func15, by kernel_rfl, rfl, by kernel_rfl, by kernel_rfl⟩
theorem ok16 : FnOK Go.Proofs.Tryz.prog 16 ir16 := ⟨_, _, Go.Proofs.Tryz.func16, by kernel_rfl, rfl, by kernel_rfl, by kernel_rfl⟩
theorem ok17 : FnOK Go.Proofs.Tryz.prog 17 ir17 := ⟨_, _, Go.Proofs.Tryz.func17, by kernel_rfl, rfl, by kernel_rfl, by kernel_rfl⟩
theorem ok18 : FnOK Go.Proofs.Tryz.prog 18 ir18 := ⟨_, _, Go.Proofs.Tryz.func18, by kernel_rfl, rfl, by kernel_rfl, by kernel_rfl⟩
theorem ok19 : FnOK Go.Proofs.Tryz.prog 19 ir19 := ⟨_, _, Go.Proofs.Tryz.func19, by kernel_rfl, rfl, by kernel_rfl, by kernel_rfl⟩
theorem ok20 : FnOK Go.Proofs.Tryz.prog 20 ir20 := ⟨_, _, Go.Proofs.Tryz.func20, by kernel_rfl, rfl, by kernel_rfl, by kernel_rfl⟩
theorem ok21 : FnOK Go.Proofs.Tryz.prog 21 ir21 := ⟨_, _, Go.Proofs.Tryz.func21, by kernel_rfl, rfl, by kernel_rfl, by kernel_rfl⟩
theorem ok22 : FnOK Go.Proofs.Tryz.prog 22 ir22 := ⟨_, _, Go.Proofs.Tryz.func22, by kernel_rfl, rfl, by kernel_rfl, by kernel_rfl⟩
theorem ok23 : FnOK Go.Proofs.Tryz.prog 23 ir23 := ⟨_, _, Go.Proofs.Tryz.func23, by kernel_rfl, rfl, by kernel_rfl, by kernel_rfl⟩
theorem ok24 : FnOK Go.Proofs.Tryz.prog 24 ir24 := ⟨_, _, Go.Proofs.Tryz.func24, by kernel_rfl, rfl, by kernel_rfl, by kernel_rfl⟩
theorem ok25 : FnOK Go.Proofs.Tryz.prog 25 ir25 := ⟨_, _, Go.Proofs.Tryz.func25, by kernel_rfl, rfl, by kernel_rfl, by kernel_rfl⟩
theorem ok26 : FnOK Go.Proofs.Tryz.prog 26 ir26 := ⟨_, _, Go.Proofs.Tryz.func26, by kernel_rfl, rfl, by kernel_rfl, by kernel_rfl⟩
theorem ok27 : FnOK Go.Proofs.Tryz.prog 27 ir27 := ⟨_, _, Go.Proofs.Tryz.func27, by kernel_rfl, rfl, by kernel_rfl, by kernel_rfl⟩
theorem ok28 : FnOK Go.Proofs.Tryz.prog 28 ir28 := ⟨_, _, Go.Proofs.Tryz.func28, by kernel_rfl, rfl, by kernel_rfl, by kernel_rfl⟩
theorem ok29 : FnOK Go.Proofs.Tryz.prog 29 ir29 := ⟨_, _, Go.Proofs.Tryz.func29, by kernel_rfl, rfl, by kernel_rfl, by kernel_rfl⟩
theorem ok30 : FnOK Go.Proofs.Tryz.prog 30 ir30 := ⟨_, _, Go.Proofs.Tryz.func30, by kernel_rfl, rfl, by kernel_rfl, by kernel_rfl⟩
theorem ok31 : FnOK Go.Proofs.Tryz.prog 31 ir31 := ⟨_, _, Go.Proofs.Tryz.func31, by kernel_rfl, rfl, by kernel_rfl, by kernel_rfl⟩
theorem ok32 : FnOK Go.Proofs.Tryz.prog 32 ir32 := ⟨_, _, Go.Proofs.Tryz.func32, by kernel_rfl, rfl, by kernel_rfl, by kernel_rfl⟩
theorem ok33 : FnOK Go.Proofs.Tryz.prog 33 ir33 := ⟨_, _, Go.Proofs.Tryz.func33, by kernel_rfl, rfl, by kernel_rfl, by kernel_rfl⟩
theorem ok34 : FnOK Go.Proofs.Tryz.prog 34 ir34 := ⟨_, _, Go.Proofs.Tryz.func34, by kernel_rfl, rfl, by kernel_rfl, by kernel_rfl⟩
theorem ok35 : FnOK Go.Proofs.Tryz.prog 35 ir35 := ⟨_, _, Go.Proofs.Tryz.func35, by kernel_rfl, rfl, by kernel_rfl, by kernel_rfl⟩
theorem ok36 : FnOK Go.Proofs.Tryz.prog 36 ir36 := ⟨_, _, Go.Proofs.Tryz.func36, by kernel_rfl, rfl, by kernel_rfl, by kernel_rfl⟩
theorem ok37 : FnOK Go.Proofs.Tryz.prog 37 ir37 := ⟨_, _, Go.Proofs.Tryz.func37, by kernel_rfl, rfl, by kernel_rfl, by kernel_rfl⟩
theorem ok38 : FnOK Go.Proofs.Tryz.prog 38 ir38 := ⟨_, _, Go.Proofs.Tryz.func38, by kernel_rfl, rfl, by kernel_rfl, by kernel_rfl⟩
theorem ok39 : FnOK Go.Proofs.Tryz.prog 39 ir39 := ⟨_, _, Go.Proofs.Tryz.func39, by kernel_rfl, rfl, by kernel_rfl, by kernel_rfl⟩
theorem ok40 : FnOK Go.Proofs.Tryz.prog 40 ir40 := ⟨_, _, Go.Proofs.Tryz.func40, by kernel_rfl, rfl, by kernel_rfl, by kernel_rfl⟩
theorem ok41 : FnOK Go.Proofs.Tryz.prog 41 ir41 := ⟨_, _, Go.Proofs.Tryz.func41, by kernel_rfl, rfl, by kernel_rfl, by kernel_rfl⟩
theorem ok42 : FnOK Go.Proofs.Tryz.prog 42 ir42 := ⟨_, _, Go.Proofs.Tryz.func42, by kernel_rfl, rfl, by kernel_rfl, by kernel_rfl⟩
theorem ok43 : FnOK Go.Proofs.Tryz.prog 43 ir43 := ⟨_, _, Go.Proofs.Tryz.func43, by kernel_rfl, rfl, by kernel_rfl, by kernel_rfl⟩
theorem ok44 : FnOK Go.Proofs.Tryz.prog 44 ir44 := ⟨_, _, Go.Proofs.Tryz.func44, by kernel_rfl, rfl, by kernel_rfl, by kernel_rfl⟩
theorem ok45 : FnOK Go.Proofs.Tryz.prog 45 ir45 := ⟨_, _, Go.Proofs.Tryz.func45, by kernel_rfl, rfl, by kernel_rfl, by kernel_rfl⟩
theorem ok46 : FnOK Go.Proofs.Tryz.prog 46 ir46 := ⟨_, _, Go.Proofs.Tryz.func46, by kernel_rfl, rfl, by kernel_rfl, by kernel_rfl⟩
theorem ok47 : FnOK Go.Proofs.Tryz.prog 47 ir47 := ⟨_, _, Go.Proofs.Tryz.func47, by kernel_rfl, rfl, by kernel_rfl, by kernel_rfl⟩
theorem ok48 : FnOK Go.Proofs.Tryz.prog 48 ir48 := ⟨_, _, Go.Proofs.Tryz.func48, by kernel_rfl, rfl, by kernel_rfl, by kernel_rfl⟩
theorem ok49 : FnOK Go.Proofs.Tryz.prog 49 ir49 := ⟨_, _, Go.Proofs.Tryz.func49, by kernel_rfl, rfl, by kernel_rfl, by kernel_rfl⟩
theorem ok50 : FnOK Go.Proofs.Tryz.prog 50 ir50 := ⟨_, _, Go.Proofs.Tryz.func50, by kernel_rfl, rfl, by kernel_rfl, by kernel_rfl⟩
theorem ok51 : FnOK Go.Proofs.Tryz.prog 51 ir51 := ⟨_, _, Go.Proofs.Tryz.func51, by kernel_rfl, rfl, by kernel_rfl, by kernel_rfl⟩
theorem ok52 : FnOK Go.Proofs.Tryz.prog 52 ir52 := ⟨_, _, Go.Proofs.Tryz.func52, by kernel_rfl, rfl, by kernel_rfl, by kernel_rfl⟩
theorem ok53 : FnOK Go.Proofs.Tryz.prog 53 ir53 := ⟨_, _, Go.Proofs.Tryz.func53, by kernel_rfl, rfl, by kernel_rfl, by kernel_rfl⟩
theorem ok54 : FnOK Go.Proofs.Tryz.prog 54 ir54 := ⟨_, _, Go.Proofs.Tryz.func54, by kernel_rfl, rfl, by kernel_rfl, by kernel_rfl⟩
theorem ok55 : FnOK Go.Proofs.Tryz.prog 55 ir55 := ⟨_, _, Go.Proofs.Tryz.func55, by kernel_rfl, rfl, by kernel_rfl, by kernel_rfl⟩
theorem ok56 : FnOK Go.Proofs.Tryz.prog 56 ir56 := ⟨_, _, Go.Proofs.Tryz.func56, by kernel_rfl, rfl, by kernel_rfl, by kernel_rfl⟩
theorem ok57 : FnOK Go.Proofs.Tryz.prog 57 ir57 := ⟨_, _, Go.Proofs.Tryz.func57, by kernel_rfl, rfl, by kernel_rfl, by kernel_rfl⟩
theorem ok58 : FnOK Go.Proofs.Tryz.prog 58 ir58 := ⟨_, _, Go.Proofs.Tryz.func58, by kernel_rfl, rfl, by kernel_rfl, by kernel_rfl⟩
theorem ok59 : FnOK Go.Proofs.Tryz.prog 59 ir59 := ⟨_, _, Go.Proofs.Tryz.func59, by kernel_rfl, rfl, by kernel_rfl, by kernel_rfl⟩
theorem ok60 : FnOK Go.Proofs.Tryz.prog 60 ir60 := ⟨_, _, Go.Proofs.Tryz.func60, by kernel_rfl, rfl, by kernel_rfl, by kernel_rfl⟩
theorem ok61 : FnOK Go.Proofs.Tryz.prog 61 ir61 := ⟨_, _, Go.Proofs.Tryz.func61, by kernel_rfl, rfl, by kernel_rfl, by kernel_rfl⟩
theorem ok62 : FnOK Go.Proofs.Tryz.prog 62 ir62 := ⟨_, _, Go.Proofs.Tryz.func62, by kernel_rfl, rfl, by kernel_rfl, by kernel_rfl⟩
theorem ok63 : FnOK Go.Proofs.Tryz.prog 63 ir63 := ⟨_, _, Go.Proofs.Tryz.func63, by kernel_rfl, rfl, by kernel_rfl, by kernel_rfl⟩
theorem ok64 : FnOK Go.Proofs.Tryz.prog 64 ir64 := ⟨_, _, Go.Proofs.Tryz.func64, by kernel_rfl, rfl, by kernel_rfl, by kernel_rfl⟩
theorem ok65 : FnOK Go.Proofs.Tryz.prog 65 ir65 := ⟨_, _, Go.Proofs.Tryz.func65, by kernel_rfl, rfl, by kernel_rfl, by kernel_rfl⟩
theorem ok66 : FnOK Go.Proofs.Tryz.prog 66 ir66 := ⟨_, _, Go.Proofs.Tryz.func66, by kernel_rfl, rfl, by kernel_rfl, by kernel_rfl⟩
theorem ok67 : FnOK Go.Proofs.Tryz.prog 67 ir67 := ⟨_, _, Go.Proofs.Tryz.func67, by kernel_rfl, rfl, by kernel_rfl, by kernel_rfl⟩
theorem ok68 : FnOK Go.Proofs.Tryz.prog 68 ir68 := ⟨_, _, Go.Proofs.Tryz.func68, by kernel_rfl, rfl, by kernel_rfl, by kernel_rfl⟩
theorem ok69 : FnOK Go.Proofs.Tryz.prog 69 ir69 := ⟨_, _, Go.Proofs.Tryz.func69, by kernel_rfl, rfl, by kernel_rfl, by kernel_rfl⟩
theorem ok70 : FnOK Go.Proofs.Tryz.prog 70 ir70 := ⟨_, _, Go.Proofs.Tryz.func70, by kernel_rfl, rfl, by kernel_rfl, by kernel_rfl⟩
theorem ok71 : FnOK Go.Proofs.Tryz.prog 71 ir71 := ⟨_, _, Go.Proofs.Tryz.func71, by kernel_rfl, rfl, by kernel_rfl, by kernel_rfl⟩
theorem ok72 : FnOK Go.Proofs.Tryz.prog 72 ir72 := ⟨_, _, Go.Proofs.Tryz.func72, by kernel_rfl, rfl, by kernel_rfl, by kernel_rfl⟩
theorem ok73 : FnOK Go.Proofs.Tryz.prog 73 ir73 := ⟨_, _, Go.Proofs.Tryz.func73, by kernel_rfl, rfl, by kernel_rfl, by kernel_rfl⟩
theorem ok74 : FnOK Go.Proofs.Tryz.prog 74 ir74 := ⟨_, _, Go.Proofs.Tryz.func74, by kernel_rfl, rfl, by kernel_rfl, by kernel_rfl⟩
theorem ok75 : FnOK Go.Proofs.Tryz.prog 75 ir75 := ⟨_, _, Go.Proofs.Tryz.func75, by kernel_rfl, rfl, by kernel_rfl, by kernel_rfl⟩
theorem ok76 : FnOK Go.Proofs.Tryz.prog 76 ir76 := ⟨_, _, Go.Proofs.Tryz.func76, by kernel_rfl, rfl, by kernel_rfl, by kernel_rfl⟩
theorem ok77 : FnOK Go.Proofs.Tryz.prog 77 ir77 := ⟨_, _, Go.Proofs.Tryz.func77, by kernel_rfl, rfl, by kernel_rfl, by kernel_rfl⟩
theorem ok78 : FnOK Go.Proofs.Tryz.prog 78 ir78 := ⟨_, _, Go.Proofs.Tryz.func78, by kernel_rfl, rfl, by kernel_rfl, by kernel_rfl⟩
theorem ok79 : FnOK Go.Proofs.Tryz.prog 79 ir79 := ⟨_, _, Go.Proofs.Tryz.func79, by kernel_rfl, rfl, by kernel_rfl, by kernel_rfl⟩
theorem ok80 : FnOK Go.Proofs.Tryz.prog 80 ir80 := ⟨_, _, Go.Proofs.Tryz.func80, by kernel_rfl, rfl, by kernel_rfl, by kernel_rfl⟩
theorem ok81 : FnOK Go.Proofs.Tryz.prog 81 ir81 := ⟨_, _, Go.Proofs.Tryz.func81, by kernel_rfl, rfl, by kernel_rfl, by kernel_rfl⟩
theorem ok82 : FnOK Go.Proofs.Tryz.prog 82 ir82 := ⟨_, _, Go.Proofs.Tryz.func82, by kernel_rfl, rfl, by kernel_rfl, by kernel_rfl⟩
theorem ok83 : FnOK Go.Proofs.Tryz.prog 83 ir83 := ⟨_, _, Go.Proofs.Tryz.func83, by kernel_rfl, rfl, by kernel_rfl, by kernel_rfl⟩
theorem ok84 : FnOK Go.Proofs.Tryz.prog 84 ir84 := ⟨_, _, Go.Proofs.Tryz.func84, by kernel_rfl, rfl, by kernel_rfl, by kernel_rfl⟩
theorem ok85 : FnOK Go.Proofs.Tryz.prog 85 ir85 := ⟨_, _, Go.Proofs.Tryz.func85, by kernel_rfl, rfl, by kernel_rfl, by kernel_rfl⟩
theorem ok86 : FnOK Go.Proofs.Tryz.prog 86 ir86 := ⟨_, _, Go.Proofs.Tryz.func86, by kernel_rfl, rfl, by kernel_rfl, by kernel_rfl⟩
theorem ok87 : FnOK Go.Proofs.Tryz.prog 87 ir87 := ⟨_, _, Go.Proofs.Tryz.func87, by kernel_rfl, rfl, by kernel_rfl, by kernel_rfl⟩
theorem ok88 : FnOK Go.Proofs.Tryz.prog 88 ir88 := ⟨_, _, Go.Proofs.Tryz.func88, by kernel_rfl, rfl, by kernel_rfl, by kernel_rfl⟩
theorem ok89 : FnOK Go.Proofs.Tryz.prog 89 ir89 := ⟨_, _, Go.Proofs.Tryz.func89, by kernel_rfl, rfl, by kernel_rfl, by kernel_rfl⟩
theorem ok90 : FnOK Go.Proofs.Tryz.prog 90 ir90 := ⟨_, _, Go.Proofs.Tryz.func90, by kernel_rfl, rfl, by kernel_rfl, by kernel_rfl⟩
theorem ok91 : FnOK Go.Proofs.Tryz.prog 91 ir91 := ⟨_, _, Go.Proofs.Tryz.func91, by kernel_rfl, rfl, by kernel_rfl, by kernel_rfl⟩
theorem ok92 : FnOK Go.Proofs.Tryz.prog 92 ir92 := ⟨_, _, Go.Proofs.Tryz.func92, by kernel_rfl, rfl, by kernel_rfl, by kernel_rfl⟩
theorem ok93 : FnOK Go.Proofs.Tryz.prog 93 ir93 := ⟨_, _, Go.Proofs.Tryz.func93, by kernel_rfl, rfl, by kernel_rfl, by kernel_rfl⟩
theorem ok94 : FnOK Go.Proofs.Tryz.prog 94 ir94 := ⟨_, _, Go.Proofs.Tryz.func94, by kernel_rfl, rfl, by kernel_rfl, by kernel_rfl⟩
theorem ok95 : FnOK Go.Proofs.Tryz.prog 95 ir95 := ⟨_, _, Go.Proofs.Tryz.func95, by kernel_rfl, rfl, by kernel_rfl, by kernel_rfl⟩
theorem ok96 : FnOK Go.Proofs.Tryz.prog 96 ir96 := ⟨_, _, Go.Proofs.Tryz.func96, by kernel_rfl, rfl, by kernel_rfl, by kernel_rfl⟩
theorem ok97 : FnOK Go.Proofs.Tryz.prog 97 ir97 := ⟨_, _, Go.Proofs.Tryz.func97, by kernel_rfl, rfl, by kernel_rfl, by kernel_rfl⟩
theorem ok98 : FnOK Go.Proofs.Tryz.prog 98 ir98 := ⟨_, _, Go.Proofs.Tryz.func98, by kernel_rfl, rfl, by kernel_rfl, by kernel_rfl⟩
theorem ok99 : FnOK Go.Proofs.Tryz.prog 99 ir99 := ⟨_, _, Go.Proofs.Tryz.func99, by kernel_rfl, rfl, by kernel_rfl, by kernel_rfl⟩
theorem ok100 : FnOK Go.Proofs.Tryz.prog 100 ir100 := ⟨_, _, Go.Proofs.Tryz.func100, by kernel_rfl, rfl, by kernel_rfl, by kernel_rfl⟩
theorem ok101 : FnOK Go.Proofs.Tryz.prog 101 ir101 := ⟨_, _, Go.Proofs.Tryz.func101, by kernel_rfl, rfl, by kernel_rfl, by kernel_rfl⟩
theorem ok102 : FnOK Go.Proofs.Tryz.prog 102 ir102 := ⟨_, _, Go.Proofs.Tryz.func102, by kernel_rfl, rfl, by kernel_rfl, by kernel_rfl⟩
theorem ok103 : FnOK Go.Proofs.Tryz.prog 103 ir103 := ⟨_, _, Go.Proofs.Tryz.func103, by kernel_rfl, rfl, by kernel_rfl, by kernel_rfl⟩
theorem ok104 : FnOK Go.Proofs.Tryz.prog 104 ir104 := ⟨_, _, Go.Proofs.Tryz.func104, by kernel_rfl, rfl, by kernel_rfl, by kernel_rfl⟩
theorem ok105 : FnOK Go.Proofs.Tryz.prog 105 ir105 := ⟨_, _, Go.Proofs.Tryz.func105, by kernel_rfl, rfl, by kernel_rfl, by kernel_rfl⟩
theorem ok106 : FnOK Go.Proofs.Tryz.prog 106 ir106 := ⟨_, _, Go.Proofs.Tryz.func106, by kernel_rfl, rfl, by kernel_rfl, by kernel_rfl⟩
theorem ok107 : FnOK Go.Proofs.Tryz.prog 107 ir107 := ⟨_, _, Go.Proofs.Tryz.func107, by kernel_rfl, rfl, by kernel_rfl, by kernel_rfl⟩
theorem ok108 : FnOK Go.Proofs.Tryz.prog 108 ir108 := ⟨_, _, Go.Proofs.Tryz.func108, by kernel_rfl, rfl, by kernel_rfl, by kernel_rfl⟩
theorem ok109 : FnOK Go.Proofs.Tryz.prog 109 ir109 := ⟨_, _, Go.Proofs.Tryz.func109, by kernel_rfl, rfl, by kernel_rfl, by kernel_rfl⟩
theorem ok110 : FnOK Go.Proofs.Tryz.prog 110 ir110 := ⟨_, _, Go.Proofs.Tryz.func110, by kernel_rfl, rfl, by kernel_rfl, by kernel_rfl⟩
theorem ok111 : FnOK Go.Proofs.Tryz.prog 111 ir111 := ⟨_, _, Go.Proofs.Tryz.func111, by kernel_rfl, rfl, by kernel_rfl, by kernel_rfl⟩
theorem ok112 : FnOK Go.Proofs.Tryz.prog 112 ir112 := ⟨_, _, Go.Proofs.Tryz.func112, by kernel_rfl, rfl, by kernel_rfl, by kernel_rfl⟩
theorem ok113 : FnOK Go.Proofs.Tryz.prog 113 ir113 := ⟨_, _, Go.Proofs.Tryz.func113, by kernel_rfl, rfl, by kernel_rfl, by kernel_rfl⟩
theorem ok114 : FnOK Go.Proofs.Tryz.prog 114 ir114 := ⟨_, _, Go.Proofs.Tryz.func114, by kernel_rfl, rfl, by kernel_rfl, by kernel_rfl⟩
theorem ok115 : FnOK Go.Proofs.Tryz.prog 115 ir115 := ⟨_, _, Go.Proofs.Tryz.func115, by kernel_rfl, rfl, by kernel_rfl, by kernel_rfl⟩
theorem ok116 : FnOK Go.Proofs.Tryz.prog 116 ir116 := ⟨_, _, Go.Proofs.Tryz.func116, by kernel_rfl, rfl, by kernel_rfl, by kernel_rfl⟩
theorem ok117 : FnOK Go.Proofs.Tryz.prog 117 ir117 := ⟨_, _, Go.Proofs.Tryz.func117, by kernel_rfl, rfl, by kernel_rfl, by kernel_rfl⟩
theorem ok118 : FnOK Go.Proofs.Tryz.prog 118 ir118 := ⟨_, _, Go.Proofs.Tryz.func118, by kernel_rfl, rfl, by kernel_rfl, by kernel_rfl⟩
theorem ok119 : FnOK Go.Proofs.Tryz.prog 119 ir119 := ⟨_, _, Go.Proofs.Tryz.func119, by kernel_rfl, rfl, by kernel_rfl, by kernel_rfl⟩
theorem ok120 : FnOK Go.Proofs.Tryz.prog 120 ir120 := ⟨_, _, Go.Proofs.Tryz.func120, by kernel_rfl, rfl, by kernel_rfl, by kernel_rfl⟩
theorem ok121 : FnOK Go.Proofs.Tryz.prog 121 ir121 := ⟨_, _, Go.Proofs.Tryz.func121, by kernel_rfl, rfl, by kernel_rfl, by kernel_rfl⟩
theorem ok122 : FnOK Go.Proofs.Tryz.prog 122 ir122 := ⟨_, _, Go.Proofs.Tryz.func122, by kernel_rfl, rfl, by kernel_rfl, by kernel_rfl⟩
theorem ok123 : FnOK Go.Proofs.Tryz.prog 123 ir123 := ⟨_, _, Go.Proofs.Tryz.func123, by kernel_rfl, rfl, by kernel_rfl, by kernel_rfl⟩
theorem ok124 : FnOK Go.Proofs.Tryz.prog 124 ir124 := ⟨_, _, Go.Proofs.Tryz.func124, by kernel_rfl, rfl, by kernel_rfl, by kernel_rfl⟩
theorem ok125 : FnOK Go.Proofs.Tryz.prog 125 ir125 := ⟨_, _, Go.Proofs.Tryz.func125, by kernel_rfl, rfl, by kernel_rfl, by kernel_rfl⟩
theorem ok126 : FnOK Go.Proofs.Tryz.prog 126 ir126 := ⟨_, _, Go.Proofs.Tryz.func126, by kernel_rfl, rfl, by kernel_rfl, by kernel_rfl⟩
theorem ok127 : FnOK Go.Proofs.Tryz.prog 127 ir127 := ⟨_, _, Go.Proofs.Tryz.func127, by kernel_rfl, rfl, by kernel_rfl, by kernel_rfl⟩
theorem ok128 : FnOK Go.Proofs.Tryz.prog 128 ir128 := ⟨_, _, Go.Proofs.Tryz.func128, by kernel_rfl, rfl, by kernel_rfl, by kernel_rfl⟩
theorem ok129 : FnOK Go.Proofs.Tryz.prog 129 ir129 := ⟨_, _, Go.Proofs.Tryz.func129, by kernel_rfl, rfl, by kernel_rfl, by kernel_rfl⟩
theorem ok130 : FnOK Go.Proofs.Tryz.prog 130 ir130 := ⟨_, _, Go.Proofs.Tryz.func130, by kernel_rfl, rfl, by kernel_rfl, by kernel_rfl⟩
theorem ok131 : FnOK Go.Proofs.Tryz.prog 131 ir131 := ⟨_, _, Go.Proofs.Tryz.func131, by kernel_rfl, rfl, by kernel_rfl, by kernel_rfl⟩
theorem ok132 : FnOK Go.Proofs.Tryz.prog 132 ir132 := ⟨_, _, Go.Proofs.Tryz.func132, by kernel_rfl, rfl, by kernel_rfl, by kernel_rfl⟩
theorem ok133 : FnOK Go.Proofs.Tryz.prog 133 ir133 := ⟨_, _, Go.Proofs.Tryz.func133, by kernel_rfl, rfl, by kernel_rfl, by kernel_rfl⟩
theorem ok134 : FnOK Go.Proofs.Tryz.prog 134 ir134 := ⟨_, _, Go.Proofs.Tryz.func134, by kernel_rfl, rfl, by kernel_rfl, by kernel_rfl⟩
theorem ok135 : FnOK Go.Proofs.Tryz.prog 135 ir135 := ⟨_, _, Go.Proofs.Tryz.func135, by kernel_rfl, rfl, by kernel_rfl, by kernel_rfl⟩
theorem ok136 : FnOK Go.Proofs.Tryz.prog 136 ir136 := ⟨_, _, Go.Proofs.Tryz.func136, by kernel_rfl, rfl, by kernel_rfl, by kernel_rfl⟩
theorem ok : ∀ p ∈ tab, FnOK Go.Proofs.Tryz.prog p.1 p.2 := by
  unfold tab
  exact all_cons ok3 (all_cons ok4 (all_cons ok5 (all_cons ok6 (all_cons ok7 (all_cons ok8 (all_cons ok9 (all_cons ok10 (all_cons ok12 (all_cons ok13 (all_cons ok14 (all_cons ok15 (all_cons ok16 (all_cons ok17 (all_cons ok18 (all_cons ok19 (all_cons ok20 (all_cons ok21 (all_cons ok22 (all_cons ok23 (all_cons ok24 (all_cons ok25 (all_cons ok26 (all_cons ok27 (all_cons ok28 (all_cons ok29 (all_cons ok30 (all_cons ok31 (all_cons ok32 (all_cons ok33 (all_cons ok34 (all_cons ok35 (all_cons ok36 (all_cons ok37 (all_cons ok38 (all_cons ok39 (all_cons ok40 (all_cons ok41 (all_cons ok42 (all_cons ok43 (all_cons ok44 (all_cons ok45 (all_cons ok46 (all_cons ok47 (all_cons ok48 (all_cons ok49 (all_cons ok50 (all_cons ok51 (all_cons ok52 (all_cons ok53 (all_cons ok54 (all_cons ok55 (all_cons ok56 (all_cons ok57 (all_cons ok58 (all_cons ok59 (all_cons ok60 (all_cons ok61 (all_cons ok62 (all_cons ok63 (all_cons ok64 (all_cons ok65 (all_cons ok66 (all_cons ok67 (all_cons ok68 (all_cons ok69 (all_cons ok70 (all_cons ok71 (all_cons ok72 (all_cons ok73 (all_cons ok74 (all_cons ok75 (all_cons ok76 (all_cons ok77 (all_cons ok78 (all_cons ok79 (all_cons ok80 (all_cons ok81 (all_cons ok82 (all_cons ok83 (all_cons ok84 (all_cons ok85 (all_cons ok86 (all_cons ok87 (all_cons ok88 (all_cons ok89 (all_cons ok90 (all_cons ok91 (all_cons ok92 (all_cons ok93 (all_cons ok94 (all_cons ok95 (all_cons ok96 (all_cons ok97 (all_cons ok98 (all_cons ok99 (all_cons ok100 (all_cons ok101 (all_cons ok102 (all_cons ok103 (all_cons ok104 (all_cons ok105 (all_cons ok106 (all_cons ok107 (all_cons ok108 (all_cons ok109 (all_cons ok110 (all_cons ok111 (all_cons ok112 (all_cons ok113 (all_cons ok114 (all_cons ok115 (all_cons ok116 (all_cons ok117 (all_cons ok118 (all_cons ok119 (all_cons ok120 (all_cons ok121 (all_cons ok122 (all_cons ok123 (all_cons ok124 (all_cons ok125 (all_cons ok126 (all_cons ok127 (all_cons ok128 (all_cons ok129 (all_cons ok130 (all_cons ok131 (all_cons ok132 (all_cons ok133 (all_cons ok134 (all_cons ok135 (all_cons ok136 (all_nil)))))))))))))))))))))))))))))))))))))))))))))))))))))))))))))))))))))))))))))))))))))))))))))))))))))))))))))))))))))))))))))))))))))
theorem envOK : EnvOKX Go.Proofs.Tryz.prog Go.Proofs.YtfjgcfloallohaaGreatDoor.namesX EE where
  mix := by kernel_rfl
  fns f fn h := fnOK_find ok h
  prims f g h := by
    have h' : (if f = 11 then some nameP else none) = some g := h
    split at h'
    · rename_i e; subst e; cases h'
      exact fun vs H r hr G own w args hK ha h0 hw _ => Go.Proofs.YtfjgcfloallohaaGreatDoor.name_prim hr (hK G (.refl G)).2 ha h0 hw
    · cases h'
end Go.EnvOf
